/-
Pure functions and what the code of them does, by program; without conditions.
-/
import Derived.Test.YtgpadaadcepgaaaTHP1
import Derived.Test.YtgpadaadcepgaaaTHS0
namespace Go.Proofs.Ytgpadaadcepgaaa
open Go Go.Lv Go.Lv.P Go.Proofs
set_option linter.unusedVariables false
set_option linter.unusedSimpArgs false
set_option maxRecDepth 100000
/-! loop.example/g01194/spec.l9One -/
noncomputable def spec_l9One_tab (F : Nat) : Tab := []
theorem spec_l9One_tabok (F : Nat) : TabOK Try.prog (spec_l9One_tab F) := tab_nil
noncomputable def spec_l9One_LS0 (F : Nat) : LT := []
theorem spec_l9One_lsok0 (F : Nat) : LoopsOK Try.prog (spec_l9One_LS0 F) (bodyOf Try.f37) := loopsOK_nil
theorem spec_l9One_run (F : Nat) (is0 : Bool) : runS tt (spec_l9One_tab F) (spec_l9One_LS0 F) [] [] Try.f37 (bodyOf Try.f37) 70 [(.bool is0)] [] = spec_l9One_c _ is0 (fun r => some ⟨(.int .i64 r), [], []⟩) := by kernel_rfl
def spec_l9One_ent (F : Nat) : Ent := ⟨[], .quiet, fun args mem => match args, mem with
  | [(.bool is0)], [] => some (true, ⟨(.int .i64 (spec_l9One_v is0)), [], []⟩)
  | _, _ => none⟩
theorem spec_l9One_fok : FunOK Try.prog 37 := funOK Try.func37 (by kernel_rfl) rfl
theorem spec_l9One_meets (F : Nat) : Meets Try.prog 37 (spec_l9One_ent F) := by
  refine meets_of_runS mixed ttok deep (spec_l9One_tabok F) Try.func37 (body_some rfl) (spec_l9One_lsok0 F) fun args mem hfit ret h => ?_
  clear hfit
  simp only [spec_l9One_ent] at h
  split at h
  · rename_i is0
    simp only [Option.some.injEq, Prod.mk.injEq] at h
    obtain ⟨hc, rfl⟩ := h
    exact ⟨[], [], 70, _, (spec_l9One_run F is0).trans (spec_l9One_cv _ is0 _), rfl, rfl, rfl⟩
  · cases h

/-! loop.example/g01194/spec.l9Weight -/
noncomputable def spec_l9Weight_tab (F : Nat) : Tab := []
theorem spec_l9Weight_tabok (F : Nat) : TabOK Try.prog (spec_l9Weight_tab F) := tab_nil
noncomputable def spec_l9Weight_LS0 (F : Nat) : LT := []
theorem spec_l9Weight_lsok0 (F : Nat) : LoopsOK Try.prog (spec_l9Weight_LS0 F) (bodyOf Try.f69) := loopsOK_nil
theorem spec_l9Weight_run (F : Nat) (s0 : List Int) : runS tt (spec_l9Weight_tab F) (spec_l9Weight_LS0 F) [] [] Try.f69 (bodyOf Try.f69) 70 [(.ints 4 s0)] [] = spec_l9Weight_c _ s0 (fun r => some ⟨(.int .i64 r), [], []⟩) := by kernel_rfl
def spec_l9Weight_ent (F : Nat) : Ent := ⟨[], .quiet, fun args mem => match args, mem with
  | [(.ints 4 s0)], [] => some (true, ⟨(.int .i64 (spec_l9Weight_v s0)), [], []⟩)
  | _, _ => none⟩
theorem spec_l9Weight_fok : FunOK Try.prog 69 := funOK Try.func69 (by kernel_rfl) rfl
theorem spec_l9Weight_meets (F : Nat) : Meets Try.prog 69 (spec_l9Weight_ent F) := by
  refine meets_of_runS mixed ttok deep (spec_l9Weight_tabok F) Try.func69 (body_some rfl) (spec_l9Weight_lsok0 F) fun args mem hfit ret h => ?_
  clear hfit
  simp only [spec_l9Weight_ent] at h
  split at h
  · rename_i s0
    simp only [Option.some.injEq, Prod.mk.injEq] at h
    obtain ⟨hc, rfl⟩ := h
    exact ⟨[], [], 70, _, (spec_l9Weight_run F s0).trans (spec_l9Weight_cv _ s0 _), rfl, rfl, rfl⟩
  · cases h

/-! loop.example/g01194/spec.l1Most -/
noncomputable def spec_l1Most_tab (F : Nat) : Tab := []
theorem spec_l1Most_tabok (F : Nat) : TabOK Try.prog (spec_l1Most_tab F) := tab_nil
noncomputable def spec_l1Most_LS0 (F : Nat) : LT := []
theorem spec_l1Most_lsok0 (F : Nat) : LoopsOK Try.prog (spec_l1Most_LS0 F) (bodyOf Try.f92) := loopsOK_nil
theorem spec_l1Most_run (F : Nat) (a0 : Int) (b1 : Int) : runS tt (spec_l1Most_tab F) (spec_l1Most_LS0 F) [] [] Try.f92 (bodyOf Try.f92) 70 [(.int .i64 a0), (.int .i64 b1)] [] = spec_l1Most_c _ a0 b1 (fun r => some ⟨(.int .i64 r), [], []⟩) := by kernel_rfl
def spec_l1Most_ent (F : Nat) : Ent := ⟨[], .quiet, fun args mem => match args, mem with
  | [(.int .i64 a0), (.int .i64 b1)], [] => some (true, ⟨(.int .i64 (spec_l1Most_v a0 b1)), [], []⟩)
  | _, _ => none⟩
theorem spec_l1Most_fok : FunOK Try.prog 92 := funOK Try.func92 (by kernel_rfl) rfl
theorem spec_l1Most_meets (F : Nat) : Meets Try.prog 92 (spec_l1Most_ent F) := by
  refine meets_of_runS mixed ttok deep (spec_l1Most_tabok F) Try.func92 (body_some rfl) (spec_l1Most_lsok0 F) fun args mem hfit ret h => ?_
  clear hfit
  simp only [spec_l1Most_ent] at h
  split at h
  · rename_i a0 b1
    simp only [Option.some.injEq, Prod.mk.injEq] at h
    obtain ⟨hc, rfl⟩ := h
    exact ⟨[], [], 70, _, (spec_l1Most_run F a0 b1).trans (spec_l1Most_cv _ a0 b1 _), rfl, rfl, rfl⟩
  · cases h

/-! loop.example/g01194/spec.l9Cut -/
noncomputable def spec_l9Cut_tab (F : Nat) : Tab := [(92, (spec_l1Most_ent F))]
theorem spec_l9Cut_tabok (F : Nat) : TabOK Try.prog (spec_l9Cut_tab F) := (tab_cons (spec_l1Most_meets F) spec_l1Most_fok tab_nil)
noncomputable def spec_l9Cut_LS0 (F : Nat) : LT := []
theorem spec_l9Cut_lsok0 (F : Nat) : LoopsOK Try.prog (spec_l9Cut_LS0 F) (bodyOf Try.f70) := loopsOK_nil
theorem spec_l9Cut_keys : keysOK (bodyOf Try.f70) = true := by kernel_rfl
def spec_l9Cut_st2 (a0 : Int) (b1 : Int) (x5 : Int) (y6 : Int) : St := ⟨expand 24 0 [0, 1, 4, 5, 6] [(.int .i64 a0), (.int .i64 b1), (.ptr 0 0 0 2), (.int .i64 x5), (.int .i64 y6)], [(.var 2 (.ri .i64 [(0 : Int), (0 : Int)]))], 0, []⟩
def spec_l9Cut_o2 (a0 : Int) (b1 : Int) (x : Int) : GT := (.out (.exit 0 ⟨expand 24 0 [0, 1, 4, 5] [(.int .i64 a0), (.int .i64 b1), (.ptr 0 0 0 2), (.int .i64 x)], [(.var 2 (.ri .i64 [(0 : Int), (0 : Int)]))], 0, []⟩))
def spec_l9Cut_ls2 (F : Nat) : LoopS := ⟨24, [0, 1, 4, 5, 6], [], [0, 1, 4, 5], [], [4], [], [], fun vals mem np killed => match vals, mem, np, killed with
  | [(.int .i64 a0), (.int .i64 b1), (.ptr 0 0 0 2), (.int .i64 x5), (.int .i64 y6)], [(.var 2 (.ri .i64 q_t47))], 0, [] => .br ((q_t47 == ([(0 : Int), (0 : Int)] : List Int)) && (spec_l9Cut_l2 F a0 b1 x5 y6).isSome) (spec_l9Cut_o2 a0 b1 ((spec_l9Cut_l2 F a0 b1 x5 y6).getD default)) .fail
  | _, _, _, _ => .fail⟩
theorem spec_l9Cut_step2 (F : Nat) (a0 : Int) (b1 : Int) (x5 : Int) (y6 : Int) {R : Type} (k : Out → Option R) : stepS tt (spec_l9Cut_tab F) (spec_l9Cut_LS0 F) 70 (spec_l9Cut_ls2 F) (loopAt 2 (bodyOf Try.f70)) (spec_l9Cut_st2 a0 b1 x5 y6) k = spec_l9Cut_s2 F a0 b1 R (x5, y6) (fun s => k (.norm (spec_l9Cut_st2 a0 b1 s.1 s.2))) (fun x => (spec_l9Cut_o2 a0 b1 x).run k) := by kernel_rfl
theorem spec_l9Cut_iter2 (F : Nat) (a0 : Int) (b1 : Int) {R : Type} (k : Out → Option R) : ∀ (n : Nat) (x5 : Int) (y6 : Int), iterS tt (spec_l9Cut_tab F) (spec_l9Cut_LS0 F) 70 (spec_l9Cut_ls2 F) (loopAt 2 (bodyOf Try.f70)) n (spec_l9Cut_st2 a0 b1 x5 y6) k = loopC (spec_l9Cut_s2 F a0 b1) n (x5, y6) (fun x => (spec_l9Cut_o2 a0 b1 x).run k)
  | 0, x5, y6 => rfl
  | n + 1, x5, y6 => (iterS_succ tt (spec_l9Cut_tab F) (spec_l9Cut_LS0 F) 70 (spec_l9Cut_ls2 F) (loopAt 2 (bodyOf Try.f70)) n (spec_l9Cut_st2 a0 b1 x5 y6) k).trans ((spec_l9Cut_step2 F a0 b1 x5 y6 (nextK (iterS tt (spec_l9Cut_tab F) (spec_l9Cut_LS0 F) 70 (spec_l9Cut_ls2 F) (loopAt 2 (bodyOf Try.f70)) n) k)).trans (congrArg (fun kn => spec_l9Cut_s2 F a0 b1 R (x5, y6) kn _) (funext (fun ⟨x5, y6⟩ => spec_l9Cut_iter2 F a0 b1 k n x5 y6))))
theorem spec_l9Cut_lok2 (F : Nat) : LoopOK Try.prog (loopAt 2 (bodyOf Try.f70)) (spec_l9Cut_ls2 F) := by
  refine loopOK_of mixed ttok deep (spec_l9Cut_tabok F) (loopsOK_at (spec_l9Cut_lsok0 F) 2) (fuel := 70) fun R vals mem np killed k x h => ?_
  simp only [spec_l9Cut_ls2] at h
  split at h
  · rename_i a0 b1 x5 y6 q_t47
    simp only [GT.run] at h
    have hc := (cond_noneL h).1
    replace h := (cond_noneL h).2
    have hg := (and_split hc).1
    replace hc := (and_split hc).2
    obtain rfl := beq_li hg
    refine ⟨F, (spec_l9Cut_iter2 F a0 b1 k F x5 y6).trans ((loopC_use (spec_l9Cut_s2_nat F a0 b1) hc _).trans h)⟩
  · simp only [GT.run] at h
    cases h
noncomputable def spec_l9Cut_LS1 (F : Nat) : LT := (2, spec_l9Cut_ls2 F) :: spec_l9Cut_LS0 F
theorem spec_l9Cut_lsok1 (F : Nat) : LoopsOK Try.prog (spec_l9Cut_LS1 F) (bodyOf Try.f70) := loopsOK_cons spec_l9Cut_keys (spec_l9Cut_lok2 F) (spec_l9Cut_lsok0 F)
theorem spec_l9Cut_run (F : Nat) (a0 : Int) (b1 : Int) : runS tt (spec_l9Cut_tab F) (spec_l9Cut_LS1 F) [] [] Try.f70 (bodyOf Try.f70) 70 [(.int .i64 a0), (.int .i64 b1)] [] = spec_l9Cut_c _ F a0 b1 (fun r => some ⟨(.ints 2 r), [], []⟩) := by kernel_rfl
def spec_l9Cut_ent (F : Nat) : Ent := ⟨[], .quiet, fun args mem => match args, mem with
  | [(.int .i64 a0), (.int .i64 b1)], [] => some ((spec_l9Cut_p F a0 b1).isSome, ⟨(.ints 2 ((spec_l9Cut_p F a0 b1).getD default)), [], []⟩)
  | _, _ => none⟩
theorem spec_l9Cut_fok : FunOK Try.prog 70 := funOK Try.func70 (by kernel_rfl) rfl
theorem spec_l9Cut_meets (F : Nat) : Meets Try.prog 70 (spec_l9Cut_ent F) := by
  refine meets_of_runS mixed ttok deep (spec_l9Cut_tabok F) Try.func70 (body_some rfl) (spec_l9Cut_lsok1 F) fun args mem hfit ret h => ?_
  clear hfit
  simp only [spec_l9Cut_ent] at h
  split at h
  · rename_i a0 b1
    simp only [Option.some.injEq, Prod.mk.injEq] at h
    obtain ⟨hc, rfl⟩ := h
    exact ⟨[], [], 70, _, (spec_l9Cut_run F a0 b1).trans ((spec_l9Cut_cp _ F a0 b1 _).trans (bind_use hc _)), rfl, rfl, rfl⟩
  · cases h

/-! loop.example/g01194/spec.l9Mean -/
noncomputable def spec_l9Mean_tab (F : Nat) : Tab := [(69, (spec_l9Weight_ent F)), (70, (spec_l9Cut_ent F))]
theorem spec_l9Mean_tabok (F : Nat) : TabOK Try.prog (spec_l9Mean_tab F) := (tab_cons (spec_l9Weight_meets F) spec_l9Weight_fok (tab_cons (spec_l9Cut_meets F) spec_l9Cut_fok tab_nil))
noncomputable def spec_l9Mean_LS0 (F : Nat) : LT := []
theorem spec_l9Mean_lsok0 (F : Nat) : LoopsOK Try.prog (spec_l9Mean_LS0 F) (bodyOf Try.f38) := loopsOK_nil
theorem spec_l9Mean_keys : keysOK (bodyOf Try.f38) = true := by kernel_rfl
def spec_l9Mean_st3 (steps0 : List (List Int)) (numbers1 : List Int) (sum5 : Int) (all6 : Int) (i7 : Int) : St := ⟨expand 36 0 [0, 1, 4, 5, 6, 7] [(.rr 4 steps0), (.ri .i64 numbers1), (.ptr 0 0 0 2), (.int .i64 sum5), (.int .i64 all6), (.int .i64 i7)], [(.var 2 (.ri .i64 [(0 : Int), (0 : Int)]))], 0, []⟩
def spec_l9Mean_o3 (steps0 : List (List Int)) (numbers1 : List Int) (x : Int × Int) : GT := (.out (.exit 0 ⟨expand 36 0 [4, 5, 6] [(.ptr 0 0 0 2), (.int .i64 x.1), (.int .i64 x.2)], [(.var 2 (.ri .i64 [(0 : Int), (0 : Int)]))], 0, []⟩))
def spec_l9Mean_ls3 (F : Nat) : LoopS := ⟨36, [0, 1, 4, 5, 6, 7], [], [4, 5, 6], [], [4], [], [], fun vals mem np killed => match vals, mem, np, killed with
  | [(.rr 4 steps0), (.ri .i64 numbers1), (.ptr 0 0 0 2), (.int .i64 sum5), (.int .i64 all6), (.int .i64 i7)], [(.var 2 (.ri .i64 q_t48))], 0, [] => .br ((q_t48 == ([(0 : Int), (0 : Int)] : List Int)) && (spec_l9Mean_l3 F steps0 numbers1 sum5 all6 i7).isSome) (spec_l9Mean_o3 steps0 numbers1 ((spec_l9Mean_l3 F steps0 numbers1 sum5 all6 i7).getD default)) .fail
  | _, _, _, _ => .fail⟩
theorem spec_l9Mean_step3 (F : Nat) (steps0 : List (List Int)) (numbers1 : List Int) (sum5 : Int) (all6 : Int) (i7 : Int) {R : Type} (k : Out → Option R) : stepS tt (spec_l9Mean_tab F) (spec_l9Mean_LS0 F) 70 (spec_l9Mean_ls3 F) (loopAt 3 (bodyOf Try.f38)) (spec_l9Mean_st3 steps0 numbers1 sum5 all6 i7) k = spec_l9Mean_s3 F steps0 numbers1 R (sum5, all6, i7) (fun s => k (.norm (spec_l9Mean_st3 steps0 numbers1 s.1 s.2.1 s.2.2))) (fun x => (spec_l9Mean_o3 steps0 numbers1 x).run k) := by kernel_rfl
theorem spec_l9Mean_iter3 (F : Nat) (steps0 : List (List Int)) (numbers1 : List Int) {R : Type} (k : Out → Option R) : ∀ (n : Nat) (sum5 : Int) (all6 : Int) (i7 : Int), iterS tt (spec_l9Mean_tab F) (spec_l9Mean_LS0 F) 70 (spec_l9Mean_ls3 F) (loopAt 3 (bodyOf Try.f38)) n (spec_l9Mean_st3 steps0 numbers1 sum5 all6 i7) k = loopC (spec_l9Mean_s3 F steps0 numbers1) n (sum5, all6, i7) (fun x => (spec_l9Mean_o3 steps0 numbers1 x).run k)
  | 0, sum5, all6, i7 => rfl
  | n + 1, sum5, all6, i7 => (iterS_succ tt (spec_l9Mean_tab F) (spec_l9Mean_LS0 F) 70 (spec_l9Mean_ls3 F) (loopAt 3 (bodyOf Try.f38)) n (spec_l9Mean_st3 steps0 numbers1 sum5 all6 i7) k).trans ((spec_l9Mean_step3 F steps0 numbers1 sum5 all6 i7 (nextK (iterS tt (spec_l9Mean_tab F) (spec_l9Mean_LS0 F) 70 (spec_l9Mean_ls3 F) (loopAt 3 (bodyOf Try.f38)) n) k)).trans (congrArg (fun kn => spec_l9Mean_s3 F steps0 numbers1 R (sum5, all6, i7) kn _) (funext (fun ⟨sum5, all6, i7⟩ => spec_l9Mean_iter3 F steps0 numbers1 k n sum5 all6 i7))))
theorem spec_l9Mean_lok3 (F : Nat) : LoopOK Try.prog (loopAt 3 (bodyOf Try.f38)) (spec_l9Mean_ls3 F) := by
  refine loopOK_of mixed ttok deep (spec_l9Mean_tabok F) (loopsOK_at (spec_l9Mean_lsok0 F) 3) (fuel := 70) fun R vals mem np killed k x h => ?_
  simp only [spec_l9Mean_ls3] at h
  split at h
  · rename_i steps0 numbers1 sum5 all6 i7 q_t48
    simp only [GT.run] at h
    have hc := (cond_noneL h).1
    replace h := (cond_noneL h).2
    have hg := (and_split hc).1
    replace hc := (and_split hc).2
    obtain rfl := beq_li hg
    refine ⟨F, (spec_l9Mean_iter3 F steps0 numbers1 k F sum5 all6 i7).trans ((loopC_use (spec_l9Mean_s3_nat F steps0 numbers1) hc _).trans h)⟩
  · simp only [GT.run] at h
    cases h
noncomputable def spec_l9Mean_LS1 (F : Nat) : LT := (3, spec_l9Mean_ls3 F) :: spec_l9Mean_LS0 F
theorem spec_l9Mean_lsok1 (F : Nat) : LoopsOK Try.prog (spec_l9Mean_LS1 F) (bodyOf Try.f38) := loopsOK_cons spec_l9Mean_keys (spec_l9Mean_lok3 F) (spec_l9Mean_lsok0 F)
theorem spec_l9Mean_run (F : Nat) (steps0 : List (List Int)) (numbers1 : List Int) : runS tt (spec_l9Mean_tab F) (spec_l9Mean_LS1 F) [] [] Try.f38 (bodyOf Try.f38) 70 [(.rr 4 steps0), (.ri .i64 numbers1)] [] = spec_l9Mean_c _ F steps0 numbers1 (fun r => some ⟨(.ints 2 r), [], []⟩) := by kernel_rfl
def spec_l9Mean_ent (F : Nat) : Ent := ⟨[], .quiet, fun args mem => match args, mem with
  | [(.rr 4 steps0), (.ri .i64 numbers1)], [] => some ((spec_l9Mean_p F steps0 numbers1).isSome, ⟨(.ints 2 ((spec_l9Mean_p F steps0 numbers1).getD default)), [], []⟩)
  | _, _ => none⟩
theorem spec_l9Mean_fok : FunOK Try.prog 38 := funOK Try.func38 (by kernel_rfl) rfl
theorem spec_l9Mean_meets (F : Nat) : Meets Try.prog 38 (spec_l9Mean_ent F) := by
  refine meets_of_runS mixed ttok deep (spec_l9Mean_tabok F) Try.func38 (body_some rfl) (spec_l9Mean_lsok1 F) fun args mem hfit ret h => ?_
  clear hfit
  simp only [spec_l9Mean_ent] at h
  split at h
  · rename_i steps0 numbers1
    simp only [Option.some.injEq, Prod.mk.injEq] at h
    obtain ⟨hc, rfl⟩ := h
    exact ⟨[], [], 70, _, (spec_l9Mean_run F steps0 numbers1).trans ((spec_l9Mean_cp _ F steps0 numbers1 _).trans (bind_use hc _)), rfl, rfl, rfl⟩
  · cases h

/-! loop.example/g01194/spec.ChanceOfNext -/
noncomputable def spec_ChanceOfNext_tab (F : Nat) : Tab := [(33, (spec_l9Move_ent F)), (34, (spec_l2Board_ent F)), (35, (spec_l5Steps_ent F)), (36, (spec_l9Boards_ent F)), (37, (spec_l9One_ent F)), (38, (spec_l9Mean_ent F))]
theorem spec_ChanceOfNext_tabok (F : Nat) : TabOK Try.prog (spec_ChanceOfNext_tab F) := (tab_cons (spec_l9Move_meets F) spec_l9Move_fok (tab_cons (spec_l2Board_meets F) spec_l2Board_fok (tab_cons (spec_l5Steps_meets F) spec_l5Steps_fok (tab_cons (spec_l9Boards_meets F) spec_l9Boards_fok (tab_cons (spec_l9One_meets F) spec_l9One_fok (tab_cons (spec_l9Mean_meets F) spec_l9Mean_fok tab_nil))))))
noncomputable def spec_ChanceOfNext_LS0 (F : Nat) : LT := []
theorem spec_ChanceOfNext_lsok0 (F : Nat) : LoopsOK Try.prog (spec_ChanceOfNext_LS0 F) (bodyOf Try.f10) := loopsOK_nil
theorem spec_ChanceOfNext_keys : keysOK (bodyOf Try.f10) = true := by kernel_rfl
def spec_ChanceOfNext_st6 (b13 : List Int) (steps15 : List (List Int)) (all17 : List (List Int)) (i12 : Int) (numbers16 : List Int) : St := ⟨expand 48 0 [5, 6, 8, 9, 10, 11] [(.ptr 0 0 0 16), (.ptr 1 0 0 2), (.sl 2 0 (List.length steps15)), (.sl 3 0 (List.length numbers16)), (.sl 4 0 (List.length all17)), (.int .i64 i12)], [(.var 16 (.ri .i64 b13)), (.var 2 (.ri .i64 [(0 : Int), (0 : Int)])), (.vec 75 (.rr 4 steps15)), (.vec 3 (.ri .i64 numbers16)), (.vec 29 (.rr 16 all17))], 0, []⟩
def spec_ChanceOfNext_o6 (b13 : List Int) (steps15 : List (List Int)) (all17 : List (List Int)) (x : List Int) : GT := (.out (.exit 0 ⟨expand 48 0 [6, 8, 9] [(.ptr 0 0 0 2), (.sl 1 0 (List.length steps15)), (.sl 2 0 (List.length x))], [(.var 2 (.ri .i64 [(0 : Int), (0 : Int)])), (.vec 75 (.rr 4 steps15)), (.vec 3 (.ri .i64 x))], 0, []⟩))
def spec_ChanceOfNext_ls6 (F : Nat) : LoopS := ⟨48, [5, 6, 8, 9, 10, 11], [], [6, 8, 9], [], [6, 7], [], [], fun vals mem np killed => match vals, mem, np, killed with
  | [(.ptr 0 0 0 16), (.ptr 1 0 0 2), (.sl 2 0 q_steps7), (.sl 3 0 q_numbers9), (.sl 4 0 q_all11), (.int .i64 i12)], [(.var 16 (.ri .i64 b13)), (.var 2 (.ri .i64 q_t614)), (.vec 75 (.rr 4 steps15)), (.vec 3 (.ri .i64 numbers16)), (.vec 29 (.rr 16 all17))], 0, [] => .br ((q_t614 == ([(0 : Int), (0 : Int)] : List Int)) && ((Nat.beq q_steps7 (List.length steps15)) && ((Nat.beq q_numbers9 (List.length numbers16)) && ((Nat.beq q_all11 (List.length all17)) && (spec_ChanceOfNext_l6 F b13 steps15 all17 i12 numbers16).isSome)))) (spec_ChanceOfNext_o6 b13 steps15 all17 ((spec_ChanceOfNext_l6 F b13 steps15 all17 i12 numbers16).getD default)) .fail
  | _, _, _, _ => .fail⟩
theorem spec_ChanceOfNext_step6 (F : Nat) (b13 : List Int) (steps15 : List (List Int)) (all17 : List (List Int)) (i12 : Int) (numbers16 : List Int) {R : Type} (k : Out → Option R) : stepS tt (spec_ChanceOfNext_tab F) (spec_ChanceOfNext_LS0 F) 70 (spec_ChanceOfNext_ls6 F) (loopAt 6 (bodyOf Try.f10)) (spec_ChanceOfNext_st6 b13 steps15 all17 i12 numbers16) k = spec_ChanceOfNext_s6 F b13 steps15 all17 R (i12, numbers16) (fun s => k (.norm (spec_ChanceOfNext_st6 b13 steps15 all17 s.1 s.2))) (fun x => (spec_ChanceOfNext_o6 b13 steps15 all17 x).run k) := by kernel_rfl
theorem spec_ChanceOfNext_iter6 (F : Nat) (b13 : List Int) (steps15 : List (List Int)) (all17 : List (List Int)) {R : Type} (k : Out → Option R) : ∀ (n : Nat) (i12 : Int) (numbers16 : List Int), iterS tt (spec_ChanceOfNext_tab F) (spec_ChanceOfNext_LS0 F) 70 (spec_ChanceOfNext_ls6 F) (loopAt 6 (bodyOf Try.f10)) n (spec_ChanceOfNext_st6 b13 steps15 all17 i12 numbers16) k = loopC (spec_ChanceOfNext_s6 F b13 steps15 all17) n (i12, numbers16) (fun x => (spec_ChanceOfNext_o6 b13 steps15 all17 x).run k)
  | 0, i12, numbers16 => rfl
  | n + 1, i12, numbers16 => (iterS_succ tt (spec_ChanceOfNext_tab F) (spec_ChanceOfNext_LS0 F) 70 (spec_ChanceOfNext_ls6 F) (loopAt 6 (bodyOf Try.f10)) n (spec_ChanceOfNext_st6 b13 steps15 all17 i12 numbers16) k).trans ((spec_ChanceOfNext_step6 F b13 steps15 all17 i12 numbers16 (nextK (iterS tt (spec_ChanceOfNext_tab F) (spec_ChanceOfNext_LS0 F) 70 (spec_ChanceOfNext_ls6 F) (loopAt 6 (bodyOf Try.f10)) n) k)).trans (congrArg (fun kn => spec_ChanceOfNext_s6 F b13 steps15 all17 R (i12, numbers16) kn _) (funext (fun ⟨i12, numbers16⟩ => spec_ChanceOfNext_iter6 F b13 steps15 all17 k n i12 numbers16))))
theorem spec_ChanceOfNext_lok6 (F : Nat) : LoopOK Try.prog (loopAt 6 (bodyOf Try.f10)) (spec_ChanceOfNext_ls6 F) := by
  refine loopOK_of mixed ttok deep (spec_ChanceOfNext_tabok F) (loopsOK_at (spec_ChanceOfNext_lsok0 F) 6) (fuel := 70) fun R vals mem np killed k x h => ?_
  simp only [spec_ChanceOfNext_ls6] at h
  split at h
  · rename_i q_steps7 q_numbers9 q_all11 i12 b13 q_t614 steps15 numbers16 all17
    simp only [GT.run] at h
    have hc := (cond_noneL h).1
    replace h := (cond_noneL h).2
    have hg := (and_split hc).1
    replace hc := (and_split hc).2
    obtain rfl := beq_li hg
    have hg := (and_split hc).1
    replace hc := (and_split hc).2
    obtain rfl := nbeq_nat hg
    have hg := (and_split hc).1
    replace hc := (and_split hc).2
    obtain rfl := nbeq_nat hg
    have hg := (and_split hc).1
    replace hc := (and_split hc).2
    obtain rfl := nbeq_nat hg
    refine ⟨F, (spec_ChanceOfNext_iter6 F b13 steps15 all17 k F i12 numbers16).trans ((loopC_use (spec_ChanceOfNext_s6_nat F b13 steps15 all17) hc _).trans h)⟩
  · simp only [GT.run] at h
    cases h
noncomputable def spec_ChanceOfNext_LS1 (F : Nat) : LT := (6, spec_ChanceOfNext_ls6 F) :: spec_ChanceOfNext_LS0 F
theorem spec_ChanceOfNext_lsok1 (F : Nat) : LoopsOK Try.prog (spec_ChanceOfNext_LS1 F) (bodyOf Try.f10) := loopsOK_cons spec_ChanceOfNext_keys (spec_ChanceOfNext_lok6 F) (spec_ChanceOfNext_lsok0 F)
theorem spec_ChanceOfNext_run (F : Nat) (a0 : List Int) (direction1 : Int) (b2 : List Int) : runS tt (spec_ChanceOfNext_tab F) (spec_ChanceOfNext_LS1 F) [] [] Try.f10 (bodyOf Try.f10) 70 [(.ints 16 a0), (.int .i64 direction1), (.ints 16 b2)] [] = spec_ChanceOfNext_c _ F a0 direction1 b2 (fun r => some ⟨(.tup [(.ints 2 r.1), (.bool r.2)]), [], []⟩) := by kernel_rfl
def spec_ChanceOfNext_ent (F : Nat) : Ent := ⟨[], .quiet, fun args mem => match args, mem with
  | [(.ints 16 a0), (.int .i64 direction1), (.ints 16 b2)], [] => some ((spec_ChanceOfNext_p F a0 direction1 b2).isSome, ⟨(.tup [(.ints 2 ((spec_ChanceOfNext_p F a0 direction1 b2).getD default).1), (.bool ((spec_ChanceOfNext_p F a0 direction1 b2).getD default).2)]), [], []⟩)
  | _, _ => none⟩
theorem spec_ChanceOfNext_fok : FunOK Try.prog 10 := funOK Try.func10 (by kernel_rfl) rfl
theorem spec_ChanceOfNext_meets (F : Nat) : Meets Try.prog 10 (spec_ChanceOfNext_ent F) := by
  refine meets_of_runS mixed ttok deep (spec_ChanceOfNext_tabok F) Try.func10 (body_some rfl) (spec_ChanceOfNext_lsok1 F) fun args mem hfit ret h => ?_
  clear hfit
  simp only [spec_ChanceOfNext_ent] at h
  split at h
  · rename_i a0 direction1 b2
    simp only [Option.some.injEq, Prod.mk.injEq] at h
    obtain ⟨hc, rfl⟩ := h
    exact ⟨[], [], 70, _, (spec_ChanceOfNext_run F a0 direction1 b2).trans ((spec_ChanceOfNext_cp _ F a0 direction1 b2 _).trans (bind_use hc _)), rfl, rfl, rfl⟩
  · cases h

/-! loop.example/g01194/impl.in -/
noncomputable def impl_in_tab (F : Nat) : Tab := []
theorem impl_in_tabok (F : Nat) : TabOK Try.prog (impl_in_tab F) := tab_nil
noncomputable def impl_in_LS0 (F : Nat) : LT := []
theorem impl_in_lsok0 (F : Nat) : LoopsOK Try.prog (impl_in_LS0 F) (bodyOf Try.f47) := loopsOK_nil
theorem impl_in_run (F : Nat) (n0 : Int) (low1 : Int) (high2 : Int) : runS tt (impl_in_tab F) (impl_in_LS0 F) [] [] Try.f47 (bodyOf Try.f47) 70 [(.int .i64 n0), (.int .i64 low1), (.int .i64 high2)] [] = impl_in_c _ n0 low1 high2 (fun r => some ⟨(.bool r), [], []⟩) := by kernel_rfl
def impl_in_ent (F : Nat) : Ent := ⟨[], .quiet, fun args mem => match args, mem with
  | [(.int .i64 n0), (.int .i64 low1), (.int .i64 high2)], [] => some (true, ⟨(.bool (impl_in_v n0 low1 high2)), [], []⟩)
  | _, _ => none⟩
theorem impl_in_fok : FunOK Try.prog 47 := funOK Try.func47 (by kernel_rfl) rfl
theorem impl_in_meets (F : Nat) : Meets Try.prog 47 (impl_in_ent F) := by
  refine meets_of_runS mixed ttok deep (impl_in_tabok F) Try.func47 (body_some rfl) (impl_in_lsok0 F) fun args mem hfit ret h => ?_
  clear hfit
  simp only [impl_in_ent] at h
  split at h
  · rename_i n0 low1 high2
    simp only [Option.some.injEq, Prod.mk.injEq] at h
    obtain ⟨hc, rfl⟩ := h
    exact ⟨[], [], 70, _, (impl_in_run F n0 low1 high2).trans (impl_in_cv _ n0 low1 high2 _), rfl, rfl, rfl⟩
  · cases h

/-! loop.example/g01194/impl.IsRow$1 -/
noncomputable def impl_IsRow_f1_tab (F : Nat) : Tab := [(47, (impl_in_ent F))]
theorem impl_IsRow_f1_tabok (F : Nat) : TabOK Try.prog (impl_IsRow_f1_tab F) := (tab_cons (impl_in_meets F) impl_in_fok tab_nil)
noncomputable def impl_IsRow_f1_LS0 (F : Nat) : LT := []
theorem impl_IsRow_f1_lsok0 (F : Nat) : LoopsOK Try.prog (impl_IsRow_f1_LS0 F) (bodyOf Try.f95) := loopsOK_nil
theorem impl_IsRow_f1_run (F : Nat) (n0 : Int) : runS tt (impl_IsRow_f1_tab F) (impl_IsRow_f1_LS0 F) [] [] Try.f95 (bodyOf Try.f95) 70 [(.int .i64 n0)] [] = impl_IsRow_f1_c _ n0 (fun r => some ⟨(.bool r), [], []⟩) := by kernel_rfl
def impl_IsRow_f1_ent (F : Nat) : Ent := ⟨[], .quiet, fun args mem => match args, mem with
  | [(.int .i64 n0)], [] => some (true, ⟨(.bool (impl_IsRow_f1_v n0)), [], []⟩)
  | _, _ => none⟩
theorem impl_IsRow_f1_fok : FunOK Try.prog 95 := funOK Try.func95 (by kernel_rfl) rfl
theorem impl_IsRow_f1_meets (F : Nat) : Meets Try.prog 95 (impl_IsRow_f1_ent F) := by
  refine meets_of_runS mixed ttok deep (impl_IsRow_f1_tabok F) Try.func95 (body_some rfl) (impl_IsRow_f1_lsok0 F) fun args mem hfit ret h => ?_
  clear hfit
  simp only [impl_IsRow_f1_ent] at h
  split at h
  · rename_i n0
    simp only [Option.some.injEq, Prod.mk.injEq] at h
    obtain ⟨hc, rfl⟩ := h
    exact ⟨[], [], 70, _, (impl_IsRow_f1_run F n0).trans (impl_IsRow_f1_cv _ n0 _), rfl, rfl, rfl⟩
  · cases h

/-! slices.IndexFunc[[]int,int] -/
noncomputable def slices_IndexFunc_intint_impl_IsRow_f1_tab (F : Nat) : Tab := [(95, (impl_IsRow_f1_ent F))]
theorem slices_IndexFunc_intint_impl_IsRow_f1_tabok (F : Nat) : TabOK Try.prog (slices_IndexFunc_intint_impl_IsRow_f1_tab F) := (tab_cons (impl_IsRow_f1_meets F) impl_IsRow_f1_fok tab_nil)
noncomputable def slices_IndexFunc_intint_impl_IsRow_f1_LS0 (F : Nat) : LT := []
theorem slices_IndexFunc_intint_impl_IsRow_f1_lsok0 (F : Nat) : LoopsOK Try.prog (slices_IndexFunc_intint_impl_IsRow_f1_LS0 F) (bodyOf Try.f108) := loopsOK_nil
theorem slices_IndexFunc_intint_impl_IsRow_f1_keys : keysOK (bodyOf Try.f108) = true := by kernel_rfl
def slices_IndexFunc_intint_impl_IsRow_f1_st2 (s0 : List Int) (t71 : Int) (t82 : Int) : St := ⟨expand 19 0 [0, 1, 7, 8] [(.ri .i64 s0), (.fn 95 [] []), (.int .i64 t71), (.int .i64 t82)], [], 0, []⟩
def slices_IndexFunc_intint_impl_IsRow_f1_o2 (s0 : List Int) (t71 : Int) (x : Bool × Int) : GT := (.br x.1 (.out (.ret ⟨expand 19 0 [4] [(.int .i64 x.2)], [], 0, []⟩)) (.out (.exit 0 ⟨expand 19 0 [] [], [], 0, []⟩)))
def slices_IndexFunc_intint_impl_IsRow_f1_ls2 (F : Nat) : LoopS := ⟨19, [0, 1, 7, 8], [], [], [], [4], [], [], fun vals mem np killed => match vals, mem, np, killed with
  | [(.ri .i64 s0), (.fn 95 [] []), (.int .i64 t71), (.int .i64 t82)], [], 0, [] => .br (slices_IndexFunc_intint_impl_IsRow_f1_l2 F s0 t71 t82).isSome (slices_IndexFunc_intint_impl_IsRow_f1_o2 s0 t71 ((slices_IndexFunc_intint_impl_IsRow_f1_l2 F s0 t71 t82).getD default)) .fail
  | _, _, _, _ => .fail⟩
theorem slices_IndexFunc_intint_impl_IsRow_f1_step2 (F : Nat) (s0 : List Int) (t71 : Int) (t82 : Int) {R : Type} (k : Out → Option R) : stepS tt (slices_IndexFunc_intint_impl_IsRow_f1_tab F) (slices_IndexFunc_intint_impl_IsRow_f1_LS0 F) 70 (slices_IndexFunc_intint_impl_IsRow_f1_ls2 F) (loopAt 2 (bodyOf Try.f108)) (slices_IndexFunc_intint_impl_IsRow_f1_st2 s0 t71 t82) k = slices_IndexFunc_intint_impl_IsRow_f1_s2 F s0 t71 R t82 (fun s => k (.norm (slices_IndexFunc_intint_impl_IsRow_f1_st2 s0 t71 s))) (fun x => (slices_IndexFunc_intint_impl_IsRow_f1_o2 s0 t71 x).run k) := by kernel_rfl
theorem slices_IndexFunc_intint_impl_IsRow_f1_iter2 (F : Nat) (s0 : List Int) (t71 : Int) {R : Type} (k : Out → Option R) : ∀ (n : Nat) (t82 : Int), iterS tt (slices_IndexFunc_intint_impl_IsRow_f1_tab F) (slices_IndexFunc_intint_impl_IsRow_f1_LS0 F) 70 (slices_IndexFunc_intint_impl_IsRow_f1_ls2 F) (loopAt 2 (bodyOf Try.f108)) n (slices_IndexFunc_intint_impl_IsRow_f1_st2 s0 t71 t82) k = loopC (slices_IndexFunc_intint_impl_IsRow_f1_s2 F s0 t71) n t82 (fun x => (slices_IndexFunc_intint_impl_IsRow_f1_o2 s0 t71 x).run k)
  | 0, t82 => rfl
  | n + 1, t82 => (iterS_succ tt (slices_IndexFunc_intint_impl_IsRow_f1_tab F) (slices_IndexFunc_intint_impl_IsRow_f1_LS0 F) 70 (slices_IndexFunc_intint_impl_IsRow_f1_ls2 F) (loopAt 2 (bodyOf Try.f108)) n (slices_IndexFunc_intint_impl_IsRow_f1_st2 s0 t71 t82) k).trans ((slices_IndexFunc_intint_impl_IsRow_f1_step2 F s0 t71 t82 (nextK (iterS tt (slices_IndexFunc_intint_impl_IsRow_f1_tab F) (slices_IndexFunc_intint_impl_IsRow_f1_LS0 F) 70 (slices_IndexFunc_intint_impl_IsRow_f1_ls2 F) (loopAt 2 (bodyOf Try.f108)) n) k)).trans (congrArg (fun kn => slices_IndexFunc_intint_impl_IsRow_f1_s2 F s0 t71 R t82 kn _) (funext (fun t82 => slices_IndexFunc_intint_impl_IsRow_f1_iter2 F s0 t71 k n t82))))
theorem slices_IndexFunc_intint_impl_IsRow_f1_lok2 (F : Nat) : LoopOK Try.prog (loopAt 2 (bodyOf Try.f108)) (slices_IndexFunc_intint_impl_IsRow_f1_ls2 F) := by
  refine loopOK_of mixed ttok deep (slices_IndexFunc_intint_impl_IsRow_f1_tabok F) (loopsOK_at (slices_IndexFunc_intint_impl_IsRow_f1_lsok0 F) 2) (fuel := 70) fun R vals mem np killed k x h => ?_
  simp only [slices_IndexFunc_intint_impl_IsRow_f1_ls2] at h
  split at h
  · rename_i s0 t71 t82
    simp only [GT.run] at h
    have hc := (cond_noneL h).1
    replace h := (cond_noneL h).2
    refine ⟨F, (slices_IndexFunc_intint_impl_IsRow_f1_iter2 F s0 t71 k F t82).trans ((loopC_use (slices_IndexFunc_intint_impl_IsRow_f1_s2_nat F s0 t71) hc _).trans h)⟩
  · simp only [GT.run] at h
    cases h
noncomputable def slices_IndexFunc_intint_impl_IsRow_f1_LS1 (F : Nat) : LT := (2, slices_IndexFunc_intint_impl_IsRow_f1_ls2 F) :: slices_IndexFunc_intint_impl_IsRow_f1_LS0 F
theorem slices_IndexFunc_intint_impl_IsRow_f1_lsok1 (F : Nat) : LoopsOK Try.prog (slices_IndexFunc_intint_impl_IsRow_f1_LS1 F) (bodyOf Try.f108) := loopsOK_cons slices_IndexFunc_intint_impl_IsRow_f1_keys (slices_IndexFunc_intint_impl_IsRow_f1_lok2 F) (slices_IndexFunc_intint_impl_IsRow_f1_lsok0 F)
theorem slices_IndexFunc_intint_impl_IsRow_f1_run (F : Nat) (s0 : List Int) : runS tt (slices_IndexFunc_intint_impl_IsRow_f1_tab F) (slices_IndexFunc_intint_impl_IsRow_f1_LS1 F) [] [] Try.f108 (bodyOf Try.f108) 70 [(.ri .i64 s0), (.fn 95 [] [])] [] = slices_IndexFunc_intint_impl_IsRow_f1_c _ F s0 (fun r => some ⟨(.int .i64 r), [], []⟩) := by kernel_rfl
def slices_IndexFunc_intint_impl_IsRow_f1_ent (F : Nat) : Ent := ⟨[], .quiet, fun args mem => match args, mem with
  | [(.ri .i64 s0), (.fn 95 [] [])], [] => some ((slices_IndexFunc_intint_impl_IsRow_f1_p F s0).isSome, ⟨(.int .i64 ((slices_IndexFunc_intint_impl_IsRow_f1_p F s0).getD default)), [], []⟩)
  | _, _ => none⟩
theorem slices_IndexFunc_intint_impl_IsRow_f1_fok : FunOK Try.prog 108 := funOK Try.func108 (by kernel_rfl) rfl
theorem slices_IndexFunc_intint_impl_IsRow_f1_meets (F : Nat) : Meets Try.prog 108 (slices_IndexFunc_intint_impl_IsRow_f1_ent F) := by
  refine meets_of_runS mixed ttok deep (slices_IndexFunc_intint_impl_IsRow_f1_tabok F) Try.func108 (body_some rfl) (slices_IndexFunc_intint_impl_IsRow_f1_lsok1 F) fun args mem hfit ret h => ?_
  clear hfit
  simp only [slices_IndexFunc_intint_impl_IsRow_f1_ent] at h
  split at h
  · rename_i s0
    simp only [Option.some.injEq, Prod.mk.injEq] at h
    obtain ⟨hc, rfl⟩ := h
    exact ⟨[], [], 70, _, (slices_IndexFunc_intint_impl_IsRow_f1_run F s0).trans ((slices_IndexFunc_intint_impl_IsRow_f1_cp _ F s0 _).trans (bind_use hc _)), rfl, rfl, rfl⟩
  · cases h

/-! slices.ContainsFunc[[]int,int] -/
noncomputable def slices_ContainsFunc_intint_impl_IsRow_f1_tab (F : Nat) : Tab := [(108, (slices_IndexFunc_intint_impl_IsRow_f1_ent F))]
theorem slices_ContainsFunc_intint_impl_IsRow_f1_tabok (F : Nat) : TabOK Try.prog (slices_ContainsFunc_intint_impl_IsRow_f1_tab F) := (tab_cons (slices_IndexFunc_intint_impl_IsRow_f1_meets F) slices_IndexFunc_intint_impl_IsRow_f1_fok tab_nil)
noncomputable def slices_ContainsFunc_intint_impl_IsRow_f1_LS0 (F : Nat) : LT := []
theorem slices_ContainsFunc_intint_impl_IsRow_f1_lsok0 (F : Nat) : LoopsOK Try.prog (slices_ContainsFunc_intint_impl_IsRow_f1_LS0 F) (bodyOf Try.f94) := loopsOK_nil
theorem slices_ContainsFunc_intint_impl_IsRow_f1_run (F : Nat) (s0 : List Int) : runS tt (slices_ContainsFunc_intint_impl_IsRow_f1_tab F) (slices_ContainsFunc_intint_impl_IsRow_f1_LS0 F) [] [] Try.f94 (bodyOf Try.f94) 70 [(.ri .i64 s0), (.fn 95 [] [])] [] = slices_ContainsFunc_intint_impl_IsRow_f1_c _ F s0 (fun r => some ⟨(.bool r), [], []⟩) := by kernel_rfl
def slices_ContainsFunc_intint_impl_IsRow_f1_ent (F : Nat) : Ent := ⟨[], .quiet, fun args mem => match args, mem with
  | [(.ri .i64 s0), (.fn 95 [] [])], [] => some ((slices_ContainsFunc_intint_impl_IsRow_f1_p F s0).isSome, ⟨(.bool ((slices_ContainsFunc_intint_impl_IsRow_f1_p F s0).getD default)), [], []⟩)
  | _, _ => none⟩
theorem slices_ContainsFunc_intint_impl_IsRow_f1_fok : FunOK Try.prog 94 := funOK Try.func94 (by kernel_rfl) rfl
theorem slices_ContainsFunc_intint_impl_IsRow_f1_meets (F : Nat) : Meets Try.prog 94 (slices_ContainsFunc_intint_impl_IsRow_f1_ent F) := by
  refine meets_of_runS mixed ttok deep (slices_ContainsFunc_intint_impl_IsRow_f1_tabok F) Try.func94 (body_some rfl) (slices_ContainsFunc_intint_impl_IsRow_f1_lsok0 F) fun args mem hfit ret h => ?_
  clear hfit
  simp only [slices_ContainsFunc_intint_impl_IsRow_f1_ent] at h
  split at h
  · rename_i s0
    simp only [Option.some.injEq, Prod.mk.injEq] at h
    obtain ⟨hc, rfl⟩ := h
    exact ⟨[], [], 70, _, (slices_ContainsFunc_intint_impl_IsRow_f1_run F s0).trans ((slices_ContainsFunc_intint_impl_IsRow_f1_cp _ F s0 _).trans (bind_use hc _)), rfl, rfl, rfl⟩
  · cases h

/-! loop.example/g01194/impl.IsRow -/
noncomputable def impl_IsRow_tab (F : Nat) : Tab := [(94, (slices_ContainsFunc_intint_impl_IsRow_f1_ent F))]
theorem impl_IsRow_tabok (F : Nat) : TabOK Try.prog (impl_IsRow_tab F) := (tab_cons (slices_ContainsFunc_intint_impl_IsRow_f1_meets F) slices_ContainsFunc_intint_impl_IsRow_f1_fok tab_nil)
noncomputable def impl_IsRow_LS0 (F : Nat) : LT := []
theorem impl_IsRow_lsok0 (F : Nat) : LoopsOK Try.prog (impl_IsRow_LS0 F) (bodyOf Try.f74) := loopsOK_nil
theorem impl_IsRow_run (F : Nat) (row0 : List Int) : runS tt (impl_IsRow_tab F) (impl_IsRow_LS0 F) [] [] Try.f74 (bodyOf Try.f74) 70 [(.ints 4 row0)] [] = impl_IsRow_c _ F row0 (fun r => some ⟨(.bool r), [], []⟩) := by kernel_rfl
def impl_IsRow_ent (F : Nat) : Ent := ⟨[], .quiet, fun args mem => match args, mem with
  | [(.ints 4 row0)], [] => some ((impl_IsRow_p F row0).isSome, ⟨(.bool ((impl_IsRow_p F row0).getD default)), [], []⟩)
  | _, _ => none⟩
theorem impl_IsRow_fok : FunOK Try.prog 74 := funOK Try.func74 (by kernel_rfl) rfl
theorem impl_IsRow_meets (F : Nat) : Meets Try.prog 74 (impl_IsRow_ent F) := by
  refine meets_of_runS mixed ttok deep (impl_IsRow_tabok F) Try.func74 (body_some rfl) (impl_IsRow_lsok0 F) fun args mem hfit ret h => ?_
  clear hfit
  simp only [impl_IsRow_ent] at h
  split at h
  · rename_i row0
    simp only [Option.some.injEq, Prod.mk.injEq] at h
    obtain ⟨hc, rfl⟩ := h
    exact ⟨[], [], 70, _, (impl_IsRow_run F row0).trans ((impl_IsRow_cp _ F row0 _).trans (bind_use hc _)), rfl, rfl, rfl⟩
  · cases h

/-! loop.example/g01194/impl.IsBoard$1 -/
noncomputable def impl_IsBoard_f1_tab (F : Nat) : Tab := [(74, (impl_IsRow_ent F))]
theorem impl_IsBoard_f1_tabok (F : Nat) : TabOK Try.prog (impl_IsBoard_f1_tab F) := (tab_cons (impl_IsRow_meets F) impl_IsRow_fok tab_nil)
noncomputable def impl_IsBoard_f1_LS0 (F : Nat) : LT := []
theorem impl_IsBoard_f1_lsok0 (F : Nat) : LoopsOK Try.prog (impl_IsBoard_f1_LS0 F) (bodyOf Try.f73) := loopsOK_nil
theorem impl_IsBoard_f1_run (F : Nat) (row0 : List Int) : runS tt (impl_IsBoard_f1_tab F) (impl_IsBoard_f1_LS0 F) [] [] Try.f73 (bodyOf Try.f73) 70 [(.ints 4 row0)] [] = impl_IsBoard_f1_c _ F row0 (fun r => some ⟨(.bool r), [], []⟩) := by kernel_rfl
def impl_IsBoard_f1_ent (F : Nat) : Ent := ⟨[], .quiet, fun args mem => match args, mem with
  | [(.ints 4 row0)], [] => some ((impl_IsBoard_f1_p F row0).isSome, ⟨(.bool ((impl_IsBoard_f1_p F row0).getD default)), [], []⟩)
  | _, _ => none⟩
theorem impl_IsBoard_f1_fok : FunOK Try.prog 73 := funOK Try.func73 (by kernel_rfl) rfl
theorem impl_IsBoard_f1_meets (F : Nat) : Meets Try.prog 73 (impl_IsBoard_f1_ent F) := by
  refine meets_of_runS mixed ttok deep (impl_IsBoard_f1_tabok F) Try.func73 (body_some rfl) (impl_IsBoard_f1_lsok0 F) fun args mem hfit ret h => ?_
  clear hfit
  simp only [impl_IsBoard_f1_ent] at h
  split at h
  · rename_i row0
    simp only [Option.some.injEq, Prod.mk.injEq] at h
    obtain ⟨hc, rfl⟩ := h
    exact ⟨[], [], 70, _, (impl_IsBoard_f1_run F row0).trans ((impl_IsBoard_f1_cp _ F row0 _).trans (bind_use hc _)), rfl, rfl, rfl⟩
  · cases h

/-! slices.IndexFunc[[][4]int,[4]int] -/
noncomputable def slices_IndexFunc_4int4int_impl_IsBoard_f1_tab (F : Nat) : Tab := [(73, (impl_IsBoard_f1_ent F))]
theorem slices_IndexFunc_4int4int_impl_IsBoard_f1_tabok (F : Nat) : TabOK Try.prog (slices_IndexFunc_4int4int_impl_IsBoard_f1_tab F) := (tab_cons (impl_IsBoard_f1_meets F) impl_IsBoard_f1_fok tab_nil)
noncomputable def slices_IndexFunc_4int4int_impl_IsBoard_f1_LS0 (F : Nat) : LT := []
theorem slices_IndexFunc_4int4int_impl_IsBoard_f1_lsok0 (F : Nat) : LoopsOK Try.prog (slices_IndexFunc_4int4int_impl_IsBoard_f1_LS0 F) (bodyOf Try.f93) := loopsOK_nil
theorem slices_IndexFunc_4int4int_impl_IsBoard_f1_keys : keysOK (bodyOf Try.f93) = true := by kernel_rfl
def slices_IndexFunc_4int4int_impl_IsBoard_f1_st2 (s0 : List (List Int)) (t71 : Int) (t82 : Int) : St := ⟨expand 19 0 [0, 1, 7, 8] [(.rr 4 s0), (.fn 73 [] []), (.int .i64 t71), (.int .i64 t82)], [], 0, []⟩
def slices_IndexFunc_4int4int_impl_IsBoard_f1_o2 (s0 : List (List Int)) (t71 : Int) (x : Bool × Int) : GT := (.br x.1 (.out (.ret ⟨expand 19 0 [4] [(.int .i64 x.2)], [], 0, []⟩)) (.out (.exit 0 ⟨expand 19 0 [] [], [], 0, []⟩)))
def slices_IndexFunc_4int4int_impl_IsBoard_f1_ls2 (F : Nat) : LoopS := ⟨19, [0, 1, 7, 8], [], [], [], [4], [], [], fun vals mem np killed => match vals, mem, np, killed with
  | [(.rr 4 s0), (.fn 73 [] []), (.int .i64 t71), (.int .i64 t82)], [], 0, [] => .br (slices_IndexFunc_4int4int_impl_IsBoard_f1_l2 F s0 t71 t82).isSome (slices_IndexFunc_4int4int_impl_IsBoard_f1_o2 s0 t71 ((slices_IndexFunc_4int4int_impl_IsBoard_f1_l2 F s0 t71 t82).getD default)) .fail
  | _, _, _, _ => .fail⟩
theorem slices_IndexFunc_4int4int_impl_IsBoard_f1_step2 (F : Nat) (s0 : List (List Int)) (t71 : Int) (t82 : Int) {R : Type} (k : Out → Option R) : stepS tt (slices_IndexFunc_4int4int_impl_IsBoard_f1_tab F) (slices_IndexFunc_4int4int_impl_IsBoard_f1_LS0 F) 70 (slices_IndexFunc_4int4int_impl_IsBoard_f1_ls2 F) (loopAt 2 (bodyOf Try.f93)) (slices_IndexFunc_4int4int_impl_IsBoard_f1_st2 s0 t71 t82) k = slices_IndexFunc_4int4int_impl_IsBoard_f1_s2 F s0 t71 R t82 (fun s => k (.norm (slices_IndexFunc_4int4int_impl_IsBoard_f1_st2 s0 t71 s))) (fun x => (slices_IndexFunc_4int4int_impl_IsBoard_f1_o2 s0 t71 x).run k) := by kernel_rfl
theorem slices_IndexFunc_4int4int_impl_IsBoard_f1_iter2 (F : Nat) (s0 : List (List Int)) (t71 : Int) {R : Type} (k : Out → Option R) : ∀ (n : Nat) (t82 : Int), iterS tt (slices_IndexFunc_4int4int_impl_IsBoard_f1_tab F) (slices_IndexFunc_4int4int_impl_IsBoard_f1_LS0 F) 70 (slices_IndexFunc_4int4int_impl_IsBoard_f1_ls2 F) (loopAt 2 (bodyOf Try.f93)) n (slices_IndexFunc_4int4int_impl_IsBoard_f1_st2 s0 t71 t82) k = loopC (slices_IndexFunc_4int4int_impl_IsBoard_f1_s2 F s0 t71) n t82 (fun x => (slices_IndexFunc_4int4int_impl_IsBoard_f1_o2 s0 t71 x).run k)
  | 0, t82 => rfl
  | n + 1, t82 => (iterS_succ tt (slices_IndexFunc_4int4int_impl_IsBoard_f1_tab F) (slices_IndexFunc_4int4int_impl_IsBoard_f1_LS0 F) 70 (slices_IndexFunc_4int4int_impl_IsBoard_f1_ls2 F) (loopAt 2 (bodyOf Try.f93)) n (slices_IndexFunc_4int4int_impl_IsBoard_f1_st2 s0 t71 t82) k).trans ((slices_IndexFunc_4int4int_impl_IsBoard_f1_step2 F s0 t71 t82 (nextK (iterS tt (slices_IndexFunc_4int4int_impl_IsBoard_f1_tab F) (slices_IndexFunc_4int4int_impl_IsBoard_f1_LS0 F) 70 (slices_IndexFunc_4int4int_impl_IsBoard_f1_ls2 F) (loopAt 2 (bodyOf Try.f93)) n) k)).trans (congrArg (fun kn => slices_IndexFunc_4int4int_impl_IsBoard_f1_s2 F s0 t71 R t82 kn _) (funext (fun t82 => slices_IndexFunc_4int4int_impl_IsBoard_f1_iter2 F s0 t71 k n t82))))
theorem slices_IndexFunc_4int4int_impl_IsBoard_f1_lok2 (F : Nat) : LoopOK Try.prog (loopAt 2 (bodyOf Try.f93)) (slices_IndexFunc_4int4int_impl_IsBoard_f1_ls2 F) := by
  refine loopOK_of mixed ttok deep (slices_IndexFunc_4int4int_impl_IsBoard_f1_tabok F) (loopsOK_at (slices_IndexFunc_4int4int_impl_IsBoard_f1_lsok0 F) 2) (fuel := 70) fun R vals mem np killed k x h => ?_
  simp only [slices_IndexFunc_4int4int_impl_IsBoard_f1_ls2] at h
  split at h
  · rename_i s0 t71 t82
    simp only [GT.run] at h
    have hc := (cond_noneL h).1
    replace h := (cond_noneL h).2
    refine ⟨F, (slices_IndexFunc_4int4int_impl_IsBoard_f1_iter2 F s0 t71 k F t82).trans ((loopC_use (slices_IndexFunc_4int4int_impl_IsBoard_f1_s2_nat F s0 t71) hc _).trans h)⟩
  · simp only [GT.run] at h
    cases h
noncomputable def slices_IndexFunc_4int4int_impl_IsBoard_f1_LS1 (F : Nat) : LT := (2, slices_IndexFunc_4int4int_impl_IsBoard_f1_ls2 F) :: slices_IndexFunc_4int4int_impl_IsBoard_f1_LS0 F
theorem slices_IndexFunc_4int4int_impl_IsBoard_f1_lsok1 (F : Nat) : LoopsOK Try.prog (slices_IndexFunc_4int4int_impl_IsBoard_f1_LS1 F) (bodyOf Try.f93) := loopsOK_cons slices_IndexFunc_4int4int_impl_IsBoard_f1_keys (slices_IndexFunc_4int4int_impl_IsBoard_f1_lok2 F) (slices_IndexFunc_4int4int_impl_IsBoard_f1_lsok0 F)
theorem slices_IndexFunc_4int4int_impl_IsBoard_f1_run (F : Nat) (s0 : List (List Int)) : runS tt (slices_IndexFunc_4int4int_impl_IsBoard_f1_tab F) (slices_IndexFunc_4int4int_impl_IsBoard_f1_LS1 F) [] [] Try.f93 (bodyOf Try.f93) 70 [(.rr 4 s0), (.fn 73 [] [])] [] = slices_IndexFunc_4int4int_impl_IsBoard_f1_c _ F s0 (fun r => some ⟨(.int .i64 r), [], []⟩) := by kernel_rfl
def slices_IndexFunc_4int4int_impl_IsBoard_f1_ent (F : Nat) : Ent := ⟨[], .quiet, fun args mem => match args, mem with
  | [(.rr 4 s0), (.fn 73 [] [])], [] => some ((slices_IndexFunc_4int4int_impl_IsBoard_f1_p F s0).isSome, ⟨(.int .i64 ((slices_IndexFunc_4int4int_impl_IsBoard_f1_p F s0).getD default)), [], []⟩)
  | _, _ => none⟩
theorem slices_IndexFunc_4int4int_impl_IsBoard_f1_fok : FunOK Try.prog 93 := funOK Try.func93 (by kernel_rfl) rfl
theorem slices_IndexFunc_4int4int_impl_IsBoard_f1_meets (F : Nat) : Meets Try.prog 93 (slices_IndexFunc_4int4int_impl_IsBoard_f1_ent F) := by
  refine meets_of_runS mixed ttok deep (slices_IndexFunc_4int4int_impl_IsBoard_f1_tabok F) Try.func93 (body_some rfl) (slices_IndexFunc_4int4int_impl_IsBoard_f1_lsok1 F) fun args mem hfit ret h => ?_
  clear hfit
  simp only [slices_IndexFunc_4int4int_impl_IsBoard_f1_ent] at h
  split at h
  · rename_i s0
    simp only [Option.some.injEq, Prod.mk.injEq] at h
    obtain ⟨hc, rfl⟩ := h
    exact ⟨[], [], 70, _, (slices_IndexFunc_4int4int_impl_IsBoard_f1_run F s0).trans ((slices_IndexFunc_4int4int_impl_IsBoard_f1_cp _ F s0 _).trans (bind_use hc _)), rfl, rfl, rfl⟩
  · cases h

/-! slices.ContainsFunc[[][4]int,[4]int] -/
noncomputable def slices_ContainsFunc_4int4int_impl_IsBoard_f1_tab (F : Nat) : Tab := [(93, (slices_IndexFunc_4int4int_impl_IsBoard_f1_ent F))]
theorem slices_ContainsFunc_4int4int_impl_IsBoard_f1_tabok (F : Nat) : TabOK Try.prog (slices_ContainsFunc_4int4int_impl_IsBoard_f1_tab F) := (tab_cons (slices_IndexFunc_4int4int_impl_IsBoard_f1_meets F) slices_IndexFunc_4int4int_impl_IsBoard_f1_fok tab_nil)
noncomputable def slices_ContainsFunc_4int4int_impl_IsBoard_f1_LS0 (F : Nat) : LT := []
theorem slices_ContainsFunc_4int4int_impl_IsBoard_f1_lsok0 (F : Nat) : LoopsOK Try.prog (slices_ContainsFunc_4int4int_impl_IsBoard_f1_LS0 F) (bodyOf Try.f72) := loopsOK_nil
theorem slices_ContainsFunc_4int4int_impl_IsBoard_f1_run (F : Nat) (s0 : List (List Int)) : runS tt (slices_ContainsFunc_4int4int_impl_IsBoard_f1_tab F) (slices_ContainsFunc_4int4int_impl_IsBoard_f1_LS0 F) [] [] Try.f72 (bodyOf Try.f72) 70 [(.rr 4 s0), (.fn 73 [] [])] [] = slices_ContainsFunc_4int4int_impl_IsBoard_f1_c _ F s0 (fun r => some ⟨(.bool r), [], []⟩) := by kernel_rfl
def slices_ContainsFunc_4int4int_impl_IsBoard_f1_ent (F : Nat) : Ent := ⟨[], .quiet, fun args mem => match args, mem with
  | [(.rr 4 s0), (.fn 73 [] [])], [] => some ((slices_ContainsFunc_4int4int_impl_IsBoard_f1_p F s0).isSome, ⟨(.bool ((slices_ContainsFunc_4int4int_impl_IsBoard_f1_p F s0).getD default)), [], []⟩)
  | _, _ => none⟩
theorem slices_ContainsFunc_4int4int_impl_IsBoard_f1_fok : FunOK Try.prog 72 := funOK Try.func72 (by kernel_rfl) rfl
theorem slices_ContainsFunc_4int4int_impl_IsBoard_f1_meets (F : Nat) : Meets Try.prog 72 (slices_ContainsFunc_4int4int_impl_IsBoard_f1_ent F) := by
  refine meets_of_runS mixed ttok deep (slices_ContainsFunc_4int4int_impl_IsBoard_f1_tabok F) Try.func72 (body_some rfl) (slices_ContainsFunc_4int4int_impl_IsBoard_f1_lsok0 F) fun args mem hfit ret h => ?_
  clear hfit
  simp only [slices_ContainsFunc_4int4int_impl_IsBoard_f1_ent] at h
  split at h
  · rename_i s0
    simp only [Option.some.injEq, Prod.mk.injEq] at h
    obtain ⟨hc, rfl⟩ := h
    exact ⟨[], [], 70, _, (slices_ContainsFunc_4int4int_impl_IsBoard_f1_run F s0).trans ((slices_ContainsFunc_4int4int_impl_IsBoard_f1_cp _ F s0 _).trans (bind_use hc _)), rfl, rfl, rfl⟩
  · cases h

/-! loop.example/g01194/impl.IsBoard -/
noncomputable def impl_IsBoard_tab (F : Nat) : Tab := [(72, (slices_ContainsFunc_4int4int_impl_IsBoard_f1_ent F))]
theorem impl_IsBoard_tabok (F : Nat) : TabOK Try.prog (impl_IsBoard_tab F) := (tab_cons (slices_ContainsFunc_4int4int_impl_IsBoard_f1_meets F) slices_ContainsFunc_4int4int_impl_IsBoard_f1_fok tab_nil)
noncomputable def impl_IsBoard_LS0 (F : Nat) : LT := []
theorem impl_IsBoard_lsok0 (F : Nat) : LoopsOK Try.prog (impl_IsBoard_LS0 F) (bodyOf Try.f40) := loopsOK_nil
theorem impl_IsBoard_run (F : Nat) (b0 : List Int) : runS tt (impl_IsBoard_tab F) (impl_IsBoard_LS0 F) [] [] Try.f40 (bodyOf Try.f40) 70 [(.ints 16 b0)] [] = impl_IsBoard_c _ F b0 (fun r => some ⟨(.bool r), [], []⟩) := by kernel_rfl
def impl_IsBoard_ent (F : Nat) : Ent := ⟨[], .quiet, fun args mem => match args, mem with
  | [(.ints 16 b0)], [] => some ((impl_IsBoard_p F b0).isSome, ⟨(.bool ((impl_IsBoard_p F b0).getD default)), [], []⟩)
  | _, _ => none⟩
theorem impl_IsBoard_fok : FunOK Try.prog 40 := funOK Try.func40 (by kernel_rfl) rfl
theorem impl_IsBoard_meets (F : Nat) : Meets Try.prog 40 (impl_IsBoard_ent F) := by
  refine meets_of_runS mixed ttok deep (impl_IsBoard_tabok F) Try.func40 (body_some rfl) (impl_IsBoard_lsok0 F) fun args mem hfit ret h => ?_
  clear hfit
  simp only [impl_IsBoard_ent] at h
  split at h
  · rename_i b0
    simp only [Option.some.injEq, Prod.mk.injEq] at h
    obtain ⟨hc, rfl⟩ := h
    exact ⟨[], [], 70, _, (impl_IsBoard_run F b0).trans ((impl_IsBoard_cp _ F b0 _).trans (bind_use hc _)), rfl, rfl, rfl⟩
  · cases h

/-! loop.example/g01194/impl.isDirection -/
noncomputable def impl_isDirection_tab (F : Nat) : Tab := [(47, (impl_in_ent F))]
theorem impl_isDirection_tabok (F : Nat) : TabOK Try.prog (impl_isDirection_tab F) := (tab_cons (impl_in_meets F) impl_in_fok tab_nil)
noncomputable def impl_isDirection_LS0 (F : Nat) : LT := []
theorem impl_isDirection_lsok0 (F : Nat) : LoopsOK Try.prog (impl_isDirection_LS0 F) (bodyOf Try.f86) := loopsOK_nil
theorem impl_isDirection_run (F : Nat) (d0 : Int) : runS tt (impl_isDirection_tab F) (impl_isDirection_LS0 F) [] [] Try.f86 (bodyOf Try.f86) 70 [(.int .i64 d0)] [] = impl_isDirection_c _ d0 (fun r => some ⟨(.bool r), [], []⟩) := by kernel_rfl
def impl_isDirection_ent (F : Nat) : Ent := ⟨[], .quiet, fun args mem => match args, mem with
  | [(.int .i64 d0)], [] => some (true, ⟨(.bool (impl_isDirection_v d0)), [], []⟩)
  | _, _ => none⟩
theorem impl_isDirection_fok : FunOK Try.prog 86 := funOK Try.func86 (by kernel_rfl) rfl
theorem impl_isDirection_meets (F : Nat) : Meets Try.prog 86 (impl_isDirection_ent F) := by
  refine meets_of_runS mixed ttok deep (impl_isDirection_tabok F) Try.func86 (body_some rfl) (impl_isDirection_lsok0 F) fun args mem hfit ret h => ?_
  clear hfit
  simp only [impl_isDirection_ent] at h
  split at h
  · rename_i d0
    simp only [Option.some.injEq, Prod.mk.injEq] at h
    obtain ⟨hc, rfl⟩ := h
    exact ⟨[], [], 70, _, (impl_isDirection_run F d0).trans (impl_isDirection_cv _ d0 _), rfl, rfl, rfl⟩
  · cases h

/-! loop.example/g01194/impl.lineCell -/
noncomputable def impl_lineCell_tab (F : Nat) : Tab := []
theorem impl_lineCell_tabok (F : Nat) : TabOK Try.prog (impl_lineCell_tab F) := tab_nil
noncomputable def impl_lineCell_LS0 (F : Nat) : LT := []
theorem impl_lineCell_lsok0 (F : Nat) : LoopsOK Try.prog (impl_lineCell_LS0 F) (bodyOf Try.f114) := loopsOK_nil
theorem impl_lineCell_run (F : Nat) (direction0 : Int) (i1 : Int) (k2 : Int) : runS tt (impl_lineCell_tab F) (impl_lineCell_LS0 F) [] [] Try.f114 (bodyOf Try.f114) 70 [(.int .i64 direction0), (.int .i64 i1), (.int .i64 k2)] [] = impl_lineCell_c _ direction0 i1 k2 (fun r => some ⟨(.ints 2 r), [], []⟩) := by kernel_rfl
def impl_lineCell_ent (F : Nat) : Ent := ⟨[], .quiet, fun args mem => match args, mem with
  | [(.int .i64 direction0), (.int .i64 i1), (.int .i64 k2)], [] => some (true, ⟨(.ints 2 (impl_lineCell_v direction0 i1 k2)), [], []⟩)
  | _, _ => none⟩
theorem impl_lineCell_fok : FunOK Try.prog 114 := funOK Try.func114 (by kernel_rfl) rfl
theorem impl_lineCell_meets (F : Nat) : Meets Try.prog 114 (impl_lineCell_ent F) := by
  refine meets_of_runS mixed ttok deep (impl_lineCell_tabok F) Try.func114 (body_some rfl) (impl_lineCell_lsok0 F) fun args mem hfit ret h => ?_
  clear hfit
  simp only [impl_lineCell_ent] at h
  split at h
  · rename_i direction0 i1 k2
    simp only [Option.some.injEq, Prod.mk.injEq] at h
    obtain ⟨hc, rfl⟩ := h
    exact ⟨[], [], 70, _, (impl_lineCell_run F direction0 i1 k2).trans (impl_lineCell_cv _ direction0 i1 k2 _), rfl, rfl, rfl⟩
  · cases h

/-! (*loop.example/g01194/impl.Board).at -/
noncomputable def impl_Board_at_tab (F : Nat) : Tab := []
theorem impl_Board_at_tabok (F : Nat) : TabOK Try.prog (impl_Board_at_tab F) := tab_nil
noncomputable def impl_Board_at_LS0 (F : Nat) : LT := []
theorem impl_Board_at_lsok0 (F : Nat) : LoopsOK Try.prog (impl_Board_at_LS0 F) (bodyOf Try.f49) := loopsOK_nil
theorem impl_Board_at_run (F : Nat) (cell3 : List Int) (b4 : List Int) : runS tt (impl_Board_at_tab F) (impl_Board_at_LS0 F) [] [] Try.f49 (bodyOf Try.f49) 70 [(.ptr 0 0 0 16), (.ints 2 cell3)] [(.var 16 (.ri .i64 b4))] = impl_Board_at_c _ cell3 b4 (fun r => some ⟨(.ptr 0 0 r 1), [(.var 16 (.ri .i64 b4))], []⟩) := by kernel_rfl
def impl_Board_at_ent (F : Nat) : Ent := ⟨[], .quiet, fun args mem => match args, mem with
  | [(.ptr 0 0 0 16), (.ints 2 cell3)], [(.var 16 (.ri .i64 b4))] => some ((impl_Board_at_p cell3 b4).isSome, ⟨(.ptr 0 0 ((impl_Board_at_p cell3 b4).getD default) 1), [], []⟩)
  | _, _ => none⟩
theorem impl_Board_at_fok : FunOK Try.prog 49 := funOK Try.func49 (by kernel_rfl) rfl
theorem impl_Board_at_meets (F : Nat) : Meets Try.prog 49 (impl_Board_at_ent F) := by
  refine meets_of_runS mixed ttok deep (impl_Board_at_tabok F) Try.func49 (body_some rfl) (impl_Board_at_lsok0 F) fun args mem hfit ret h => ?_
  clear hfit
  simp only [impl_Board_at_ent] at h
  split at h
  · rename_i cell3 b4
    simp only [Option.some.injEq, Prod.mk.injEq] at h
    obtain ⟨hc, rfl⟩ := h
    exact ⟨[], [], 70, _, (impl_Board_at_run F cell3 b4).trans ((impl_Board_at_cp _ cell3 b4 _).trans (bind_use hc _)), rfl, rfl, rfl⟩
  · cases h

/-! (loop.example/g01194/impl.Board).line -/
noncomputable def impl_Board_line_tab (F : Nat) : Tab := [(114, (impl_lineCell_ent F)), (49, (impl_Board_at_ent F))]
theorem impl_Board_line_tabok (F : Nat) : TabOK Try.prog (impl_Board_line_tab F) := (tab_cons (impl_lineCell_meets F) impl_lineCell_fok (tab_cons (impl_Board_at_meets F) impl_Board_at_fok tab_nil))
noncomputable def impl_Board_line_LS0 (F : Nat) : LT := []
theorem impl_Board_line_lsok0 (F : Nat) : LoopsOK Try.prog (impl_Board_line_LS0 F) (bodyOf Try.f103) := loopsOK_nil
theorem impl_Board_line_run (F : Nat) (b0 : List Int) (direction1 : Int) (i2 : Int) : runS tt (impl_Board_line_tab F) (impl_Board_line_LS0 F) [] [] Try.f103 (bodyOf Try.f103) 70 [(.ints 16 b0), (.int .i64 direction1), (.int .i64 i2)] [] = impl_Board_line_c _ b0 direction1 i2 (fun r => some ⟨(.ints 4 r), [], []⟩) := by kernel_rfl
def impl_Board_line_ent (F : Nat) : Ent := ⟨[], .quiet, fun args mem => match args, mem with
  | [(.ints 16 b0), (.int .i64 direction1), (.int .i64 i2)], [] => some ((impl_Board_line_p b0 direction1 i2).isSome, ⟨(.ints 4 ((impl_Board_line_p b0 direction1 i2).getD default)), [], []⟩)
  | _, _ => none⟩
theorem impl_Board_line_fok : FunOK Try.prog 103 := funOK Try.func103 (by kernel_rfl) rfl
theorem impl_Board_line_meets (F : Nat) : Meets Try.prog 103 (impl_Board_line_ent F) := by
  refine meets_of_runS mixed ttok deep (impl_Board_line_tabok F) Try.func103 (body_some rfl) (impl_Board_line_lsok0 F) fun args mem hfit ret h => ?_
  clear hfit
  simp only [impl_Board_line_ent] at h
  split at h
  · rename_i b0 direction1 i2
    simp only [Option.some.injEq, Prod.mk.injEq] at h
    obtain ⟨hc, rfl⟩ := h
    exact ⟨[], [], 70, _, (impl_Board_line_run F b0 direction1 i2).trans ((impl_Board_line_cp _ b0 direction1 i2 _).trans (bind_use hc _)), rfl, rfl, rfl⟩
  · cases h

/-! slices.Clone[[]int,int] -/
def slices_Clone_intint_ent (F : Nat) : Ent := ⟨[], .fresh, fun args mem => match args, mem with
  | [(.ri .i64 xs)], [] => some (fits xs.length 8, ⟨.sl 0 0 xs.length, [.vec 3 (.ri .i64 xs)], []⟩)
  | _, _ => none⟩
theorem slices_Clone_intint_fok : FunOK Try.prog 117 := funOK Try.func117 (by kernel_rfl) rfl
theorem slices_Clone_intint_meets (F : Nat) : Meets Try.prog 117 (slices_Clone_intint_ent F) := by
  have hb : Try.f117.body = some (.seq _ (.seq (.seq (.region _ #[_, _] false) _) _)) := rfl
  refine meets_nil (fuel := 70) (fn := Try.f117) mixed ttok deep tab_nil Try.func117 hb loopsOK_nil rfl rfl rfl rfl rfl rfl Try.underlying57 fun args mem hfit ret hg => ?_
  clear hfit
  simp only [slices_Clone_intint_ent] at hg
  split at hg
  · rename_i xs
    simp only [Option.some.injEq, Prod.mk.injEq] at hg
    obtain ⟨hc, rfl⟩ := hg
    refine ⟨⟨[(.ri .i64 xs), .undef, .z0, .undef, .undef, .undef, .undef, .undef], [], 0, []⟩, fun R k => by kernel_rfl, rfl, Nat.le_of_ble_eq_true rfl, fun b hb => ?_⟩
    cases b with
    | true =>
      obtain rfl : xs = [] := List.eq_nil_of_length_eq_zero (hb rfl)
      exact ⟨[⟨2, 3, (.ri .i64 [])⟩], [], _, (by kernel_rfl : _ = some ⟨.sl 0 0 0, [.vec 3 (.ri .i64 [])], []⟩), rfl, rfl, rfl⟩
    | false =>
      refine ⟨[], [], ⟨.sl 0 0 xs.length, [.vec 3 (.ri .i64 xs)], []⟩, Eq.trans (by kernel_rfl : _ = bif fits xs.length 8 then some (⟨.sl 0 0 xs.length, [.vec 3 (.ri .i64 xs)], []⟩ : Ret) else none) ?_, rfl, rfl, rfl⟩
      rw [hc]; rfl
  · cases hg

/-! loop.example/g01194/impl.tiles$1 -/
noncomputable def impl_tiles_f1_tab (F : Nat) : Tab := []
theorem impl_tiles_f1_tabok (F : Nat) : TabOK Try.prog (impl_tiles_f1_tab F) := tab_nil
noncomputable def impl_tiles_f1_LS0 (F : Nat) : LT := []
theorem impl_tiles_f1_lsok0 (F : Nat) : LoopsOK Try.prog (impl_tiles_f1_LS0 F) (bodyOf Try.f118) := loopsOK_nil
theorem impl_tiles_f1_run (F : Nat) (n0 : Int) : runS tt (impl_tiles_f1_tab F) (impl_tiles_f1_LS0 F) [] [] Try.f118 (bodyOf Try.f118) 70 [(.int .i64 n0)] [] = impl_tiles_f1_c _ n0 (fun r => some ⟨(.bool r), [], []⟩) := by kernel_rfl
def impl_tiles_f1_ent (F : Nat) : Ent := ⟨[], .quiet, fun args mem => match args, mem with
  | [(.int .i64 n0)], [] => some (true, ⟨(.bool (impl_tiles_f1_v n0)), [], []⟩)
  | _, _ => none⟩
theorem impl_tiles_f1_fok : FunOK Try.prog 118 := funOK Try.func118 (by kernel_rfl) rfl
theorem impl_tiles_f1_meets (F : Nat) : Meets Try.prog 118 (impl_tiles_f1_ent F) := by
  refine meets_of_runS mixed ttok deep (impl_tiles_f1_tabok F) Try.func118 (body_some rfl) (impl_tiles_f1_lsok0 F) fun args mem hfit ret h => ?_
  clear hfit
  simp only [impl_tiles_f1_ent] at h
  split at h
  · rename_i n0
    simp only [Option.some.injEq, Prod.mk.injEq] at h
    obtain ⟨hc, rfl⟩ := h
    exact ⟨[], [], 70, _, (impl_tiles_f1_run F n0).trans (impl_tiles_f1_cv _ n0 _), rfl, rfl, rfl⟩
  · cases h
end Go.Proofs.Ytgpadaadcepgaaa
