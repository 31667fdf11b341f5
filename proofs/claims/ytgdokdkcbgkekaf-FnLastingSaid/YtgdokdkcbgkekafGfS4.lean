/-
Pure functions and what the code of them does, by program; without conditions.
-/
import Derived.Test.YtgdokdkcbgkekafGfP4
import Derived.Test.YtgdokdkcbgkekafGfS3
namespace Go.Proofs.Ytgdokdkcbgkekaf
open Go Go.Lv Go.Lv.P Go.Proofs
set_option linter.unusedVariables false
set_option linter.unusedSimpArgs false
set_option maxRecDepth 100000
/-! loop.example/g01194/spec.l2Worth -/
noncomputable def spec_l2Worth_tab (F : Nat) : Tab := []
theorem spec_l2Worth_tabok (F : Nat) : TabOK Try.prog (spec_l2Worth_tab F) := tab_nil
noncomputable def spec_l2Worth_LS0 (F : Nat) : LT := []
theorem spec_l2Worth_lsok0 (F : Nat) : LoopsOK Try.prog (spec_l2Worth_LS0 F) (bodyOf Try.f86) := loopsOK_nil
theorem spec_l2Worth_run (F : Nat) (t0 : Int) : runS tt (spec_l2Worth_tab F) (spec_l2Worth_LS0 F) [] [] Try.f86 (bodyOf Try.f86) 70 [(.int .i64 t0)] [] = spec_l2Worth_c _ t0 (fun r => some ⟨(.int .i64 r), [], []⟩) := by kernel_rfl
def spec_l2Worth_ent (F : Nat) : Ent := ⟨[], .quiet, fun args mem => match args, mem with
  | [(.int .i64 t0)], [] => some ((spec_l2Worth_p t0).isSome, ⟨(.int .i64 ((spec_l2Worth_p t0).getD default)), [], []⟩)
  | _, _ => none⟩
theorem spec_l2Worth_fok : FunOK Try.prog 86 := funOK Try.func86 (by kernel_rfl) rfl
theorem spec_l2Worth_meets (F : Nat) : Meets Try.prog 86 (spec_l2Worth_ent F) := by
  refine meets_of_runS mixed ttok deep (spec_l2Worth_tabok F) Try.func86 (body_some rfl) (spec_l2Worth_lsok0 F) fun args mem hfit ret h => ?_
  clear hfit
  simp only [spec_l2Worth_ent] at h
  split at h
  · rename_i t0
    simp only [Option.some.injEq, Prod.mk.injEq] at h
    obtain ⟨hc, rfl⟩ := h
    exact ⟨[], [], 70, _, (spec_l2Worth_run F t0).trans ((spec_l2Worth_cp _ t0 _).trans (bind_use hc _)), rfl, rfl, rfl⟩
  · cases h

/-! loop.example/g01194/spec.l2Row -/
noncomputable def spec_l2Row_tab (F : Nat) : Tab := [(86, (spec_l2Worth_ent F))]
theorem spec_l2Row_tabok (F : Nat) : TabOK Try.prog (spec_l2Row_tab F) := (tab_cons (spec_l2Worth_meets F) spec_l2Worth_fok tab_nil)
noncomputable def spec_l2Row_LS0 (F : Nat) : LT := []
theorem spec_l2Row_lsok0 (F : Nat) : LoopsOK Try.prog (spec_l2Row_LS0 F) (bodyOf Try.f69) := loopsOK_nil
theorem spec_l2Row_keys : keysOK (bodyOf Try.f69) = true := by kernel_rfl
def spec_l2Row_st3 (row13 : List Int) (n9 : Int) (score10 : Int) (merged11 : Bool) (k12 : Int) (out15 : List Int) : St := ⟨expand 63 0 [1, 2, 4, 5, 6, 7, 8] [(.ptr 0 0 0 4), (.ptr 1 0 0 4), (.ptr 2 0 0 4), (.int .i64 n9), (.int .i64 score10), (.bool merged11), (.int .i64 k12)], [(.var 4 (.ri .i64 row13)), (.var 4 (.ri .i64 [(0 : Int), (0 : Int), (0 : Int), (0 : Int)])), (.var 4 (.ri .i64 out15))], 0, []⟩
def spec_l2Row_o3 (row13 : List Int) (x : Int × List Int) : GT := (.out (.exit 0 ⟨expand 63 0 [2, 4, 6] [(.ptr 0 0 0 4), (.ptr 1 0 0 4), (.int .i64 x.1)], [(.var 4 (.ri .i64 [(0 : Int), (0 : Int), (0 : Int), (0 : Int)])), (.var 4 (.ri .i64 x.2))], 0, []⟩))
def spec_l2Row_ls3 (F : Nat) : LoopS := ⟨63, [1, 2, 4, 5, 6, 7, 8], [], [2, 4, 6], [], [2, 3], [], [], fun vals mem np killed => match vals, mem, np, killed with
  | [(.ptr 0 0 0 4), (.ptr 1 0 0 4), (.ptr 2 0 0 4), (.int .i64 n9), (.int .i64 score10), (.bool merged11), (.int .i64 k12)], [(.var 4 (.ri .i64 row13)), (.var 4 (.ri .i64 q_t214)), (.var 4 (.ri .i64 out15))], 0, [] => .br ((q_t214 == ([(0 : Int), (0 : Int), (0 : Int), (0 : Int)] : List Int)) && (spec_l2Row_l3 F row13 n9 score10 merged11 k12 out15).isSome) (spec_l2Row_o3 row13 ((spec_l2Row_l3 F row13 n9 score10 merged11 k12 out15).getD default)) .fail
  | _, _, _, _ => .fail⟩
theorem spec_l2Row_step3 (F : Nat) (row13 : List Int) (n9 : Int) (score10 : Int) (merged11 : Bool) (k12 : Int) (out15 : List Int) {R : Type} (k : Out → Option R) : stepS tt (spec_l2Row_tab F) (spec_l2Row_LS0 F) 70 (spec_l2Row_ls3 F) (loopAt 3 (bodyOf Try.f69)) (spec_l2Row_st3 row13 n9 score10 merged11 k12 out15) k = spec_l2Row_s3 F row13 R (n9, score10, merged11, k12, out15) (fun s => k (.norm (spec_l2Row_st3 row13 s.1 s.2.1 s.2.2.1 s.2.2.2.1 s.2.2.2.2))) (fun x => (spec_l2Row_o3 row13 x).run k) := by kernel_rfl
theorem spec_l2Row_iter3 (F : Nat) (row13 : List Int) {R : Type} (k : Out → Option R) : ∀ (n : Nat) (n9 : Int) (score10 : Int) (merged11 : Bool) (k12 : Int) (out15 : List Int), iterS tt (spec_l2Row_tab F) (spec_l2Row_LS0 F) 70 (spec_l2Row_ls3 F) (loopAt 3 (bodyOf Try.f69)) n (spec_l2Row_st3 row13 n9 score10 merged11 k12 out15) k = loopC (spec_l2Row_s3 F row13) n (n9, score10, merged11, k12, out15) (fun x => (spec_l2Row_o3 row13 x).run k)
  | 0, n9, score10, merged11, k12, out15 => rfl
  | n + 1, n9, score10, merged11, k12, out15 => (iterS_succ tt (spec_l2Row_tab F) (spec_l2Row_LS0 F) 70 (spec_l2Row_ls3 F) (loopAt 3 (bodyOf Try.f69)) n (spec_l2Row_st3 row13 n9 score10 merged11 k12 out15) k).trans ((spec_l2Row_step3 F row13 n9 score10 merged11 k12 out15 (nextK (iterS tt (spec_l2Row_tab F) (spec_l2Row_LS0 F) 70 (spec_l2Row_ls3 F) (loopAt 3 (bodyOf Try.f69)) n) k)).trans (congrArg (fun kn => spec_l2Row_s3 F row13 R (n9, score10, merged11, k12, out15) kn _) (funext (fun ⟨n9, score10, merged11, k12, out15⟩ => spec_l2Row_iter3 F row13 k n n9 score10 merged11 k12 out15))))
theorem spec_l2Row_lok3 (F : Nat) : LoopOK Try.prog (loopAt 3 (bodyOf Try.f69)) (spec_l2Row_ls3 F) := by
  refine loopOK_of mixed ttok deep (spec_l2Row_tabok F) (loopsOK_at (spec_l2Row_lsok0 F) 3) (fuel := 70) fun R vals mem np killed k x h => ?_
  simp only [spec_l2Row_ls3] at h
  split at h
  · rename_i n9 score10 merged11 k12 row13 q_t214 out15
    simp only [GT.run] at h
    have hc := (cond_noneL h).1
    replace h := (cond_noneL h).2
    have hg := (and_split hc).1
    replace hc := (and_split hc).2
    obtain rfl := beq_li hg
    refine ⟨F, (spec_l2Row_iter3 F row13 k F n9 score10 merged11 k12 out15).trans ((loopC_use (spec_l2Row_s3_nat F row13) hc _).trans h)⟩
  · simp only [GT.run] at h
    cases h
noncomputable def spec_l2Row_LS1 (F : Nat) : LT := (3, spec_l2Row_ls3 F) :: spec_l2Row_LS0 F
theorem spec_l2Row_lsok1 (F : Nat) : LoopsOK Try.prog (spec_l2Row_LS1 F) (bodyOf Try.f69) := loopsOK_cons spec_l2Row_keys (spec_l2Row_lok3 F) (spec_l2Row_lsok0 F)
theorem spec_l2Row_run (F : Nat) (row0 : List Int) : runS tt (spec_l2Row_tab F) (spec_l2Row_LS1 F) [] [] Try.f69 (bodyOf Try.f69) 70 [(.ints 4 row0)] [] = spec_l2Row_c _ F row0 (fun r => some ⟨(.tup [(.ints 4 r.1), (.int .i64 r.2)]), [], []⟩) := by kernel_rfl
def spec_l2Row_ent (F : Nat) : Ent := ⟨[], .quiet, fun args mem => match args, mem with
  | [(.ints 4 row0)], [] => some ((spec_l2Row_p F row0).isSome, ⟨(.tup [(.ints 4 ((spec_l2Row_p F row0).getD default).1), (.int .i64 ((spec_l2Row_p F row0).getD default).2)]), [], []⟩)
  | _, _ => none⟩
theorem spec_l2Row_fok : FunOK Try.prog 69 := funOK Try.func69 (by kernel_rfl) rfl
theorem spec_l2Row_meets (F : Nat) : Meets Try.prog 69 (spec_l2Row_ent F) := by
  refine meets_of_runS mixed ttok deep (spec_l2Row_tabok F) Try.func69 (body_some rfl) (spec_l2Row_lsok1 F) fun args mem hfit ret h => ?_
  clear hfit
  simp only [spec_l2Row_ent] at h
  split at h
  · rename_i row0
    simp only [Option.some.injEq, Prod.mk.injEq] at h
    obtain ⟨hc, rfl⟩ := h
    exact ⟨[], [], 70, _, (spec_l2Row_run F row0).trans ((spec_l2Row_cp _ F row0 _).trans (bind_use hc _)), rfl, rfl, rfl⟩
  · cases h

/-! loop.example/g01194/spec.l2Put -/
noncomputable def spec_l2Put_tab (F : Nat) : Tab := []
theorem spec_l2Put_tabok (F : Nat) : TabOK Try.prog (spec_l2Put_tab F) := tab_nil
noncomputable def spec_l2Put_LS0 (F : Nat) : LT := []
theorem spec_l2Put_lsok0 (F : Nat) : LoopsOK Try.prog (spec_l2Put_LS0 F) (bodyOf Try.f72) := loopsOK_nil
theorem spec_l2Put_run (F : Nat) (b0 : List Int) (cell1 : List Int) (t2 : Int) : runS tt (spec_l2Put_tab F) (spec_l2Put_LS0 F) [] [] Try.f72 (bodyOf Try.f72) 70 [(.ints 16 b0), (.ints 2 cell1), (.int .i64 t2)] [] = spec_l2Put_c _ b0 cell1 t2 (fun r => some ⟨(.ints 16 r), [], []⟩) := by kernel_rfl
def spec_l2Put_ent (F : Nat) : Ent := ⟨[], .quiet, fun args mem => match args, mem with
  | [(.ints 16 b0), (.ints 2 cell1), (.int .i64 t2)], [] => some ((spec_l2Put_p b0 cell1 t2).isSome, ⟨(.ints 16 ((spec_l2Put_p b0 cell1 t2).getD default)), [], []⟩)
  | _, _ => none⟩
theorem spec_l2Put_fok : FunOK Try.prog 72 := funOK Try.func72 (by kernel_rfl) rfl
theorem spec_l2Put_meets (F : Nat) : Meets Try.prog 72 (spec_l2Put_ent F) := by
  refine meets_of_runS mixed ttok deep (spec_l2Put_tabok F) Try.func72 (body_some rfl) (spec_l2Put_lsok0 F) fun args mem hfit ret h => ?_
  clear hfit
  simp only [spec_l2Put_ent] at h
  split at h
  · rename_i b0 cell1 t2
    simp only [Option.some.injEq, Prod.mk.injEq] at h
    obtain ⟨hc, rfl⟩ := h
    exact ⟨[], [], 70, _, (spec_l2Put_run F b0 cell1 t2).trans ((spec_l2Put_cp _ b0 cell1 t2 _).trans (bind_use hc _)), rfl, rfl, rfl⟩
  · cases h

/-! loop.example/g01194/spec.l2Slide -/
noncomputable def spec_l2Slide_tab (F : Nat) : Tab := [(70, (spec_l2Numbers_ent F)), (69, (spec_l2Row_ent F)), (71, (spec_l2Line_ent F)), (72, (spec_l2Put_ent F))]
theorem spec_l2Slide_tabok (F : Nat) : TabOK Try.prog (spec_l2Slide_tab F) := (tab_cons (spec_l2Numbers_meets F) spec_l2Numbers_fok (tab_cons (spec_l2Row_meets F) spec_l2Row_fok (tab_cons (spec_l2Line_meets F) spec_l2Line_fok (tab_cons (spec_l2Put_meets F) spec_l2Put_fok tab_nil))))
noncomputable def spec_l2Slide_LS0 (F : Nat) : LT := []
theorem spec_l2Slide_lsok0 (F : Nat) : LoopsOK Try.prog (spec_l2Slide_LS0 F) (bodyOf Try.f43) := loopsOK_nil
theorem spec_l2Slide_keys : keysOK (bodyOf Try.f43) = true := by kernel_rfl
def spec_l2Slide_st3 (d0 : Int) (b12 : List Int) (sum10 : Int) (i11 : Int) (out14 : List Int) : St := ⟨expand 46 0 [1, 2, 4, 6, 7, 8] [(.int .i64 d0), (.ptr 0 0 0 16), (.ptr 1 0 0 16), (.ptr 2 0 0 16), (.int .i64 sum10), (.int .i64 i11)], [(.var 16 (.ri .i64 b12)), (.var 16 (.ri .i64 [(0 : Int), (0 : Int), (0 : Int), (0 : Int), (0 : Int), (0 : Int), (0 : Int), (0 : Int), (0 : Int), (0 : Int), (0 : Int), (0 : Int), (0 : Int), (0 : Int), (0 : Int), (0 : Int)])), (.var 16 (.ri .i64 out14))], 0, []⟩
def spec_l2Slide_o3 (d0 : Int) (b12 : List Int) (x : Int × List Int) : GT := (.out (.exit 0 ⟨expand 46 0 [4, 6, 7] [(.ptr 0 0 0 16), (.ptr 1 0 0 16), (.int .i64 x.1)], [(.var 16 (.ri .i64 [(0 : Int), (0 : Int), (0 : Int), (0 : Int), (0 : Int), (0 : Int), (0 : Int), (0 : Int), (0 : Int), (0 : Int), (0 : Int), (0 : Int), (0 : Int), (0 : Int), (0 : Int), (0 : Int)])), (.var 16 (.ri .i64 x.2))], 0, []⟩))
def spec_l2Slide_ls3 (F : Nat) : LoopS := ⟨46, [1, 2, 4, 6, 7, 8], [], [4, 6, 7], [], [4, 5], [], [], fun vals mem np killed => match vals, mem, np, killed with
  | [(.int .i64 d0), (.ptr 0 0 0 16), (.ptr 1 0 0 16), (.ptr 2 0 0 16), (.int .i64 sum10), (.int .i64 i11)], [(.var 16 (.ri .i64 b12)), (.var 16 (.ri .i64 q_t413)), (.var 16 (.ri .i64 out14))], 0, [] => .br ((q_t413 == ([(0 : Int), (0 : Int), (0 : Int), (0 : Int), (0 : Int), (0 : Int), (0 : Int), (0 : Int), (0 : Int), (0 : Int), (0 : Int), (0 : Int), (0 : Int), (0 : Int), (0 : Int), (0 : Int)] : List Int)) && (spec_l2Slide_l3 F d0 b12 sum10 i11 out14).isSome) (spec_l2Slide_o3 d0 b12 ((spec_l2Slide_l3 F d0 b12 sum10 i11 out14).getD default)) .fail
  | _, _, _, _ => .fail⟩
theorem spec_l2Slide_step3 (F : Nat) (d0 : Int) (b12 : List Int) (sum10 : Int) (i11 : Int) (out14 : List Int) {R : Type} (k : Out → Option R) : stepS tt (spec_l2Slide_tab F) (spec_l2Slide_LS0 F) 70 (spec_l2Slide_ls3 F) (loopAt 3 (bodyOf Try.f43)) (spec_l2Slide_st3 d0 b12 sum10 i11 out14) k = spec_l2Slide_s3 F d0 b12 R (sum10, i11, out14) (fun s => k (.norm (spec_l2Slide_st3 d0 b12 s.1 s.2.1 s.2.2))) (fun x => (spec_l2Slide_o3 d0 b12 x).run k) := by kernel_rfl
theorem spec_l2Slide_iter3 (F : Nat) (d0 : Int) (b12 : List Int) {R : Type} (k : Out → Option R) : ∀ (n : Nat) (sum10 : Int) (i11 : Int) (out14 : List Int), iterS tt (spec_l2Slide_tab F) (spec_l2Slide_LS0 F) 70 (spec_l2Slide_ls3 F) (loopAt 3 (bodyOf Try.f43)) n (spec_l2Slide_st3 d0 b12 sum10 i11 out14) k = loopC (spec_l2Slide_s3 F d0 b12) n (sum10, i11, out14) (fun x => (spec_l2Slide_o3 d0 b12 x).run k)
  | 0, sum10, i11, out14 => rfl
  | n + 1, sum10, i11, out14 => (iterS_succ tt (spec_l2Slide_tab F) (spec_l2Slide_LS0 F) 70 (spec_l2Slide_ls3 F) (loopAt 3 (bodyOf Try.f43)) n (spec_l2Slide_st3 d0 b12 sum10 i11 out14) k).trans ((spec_l2Slide_step3 F d0 b12 sum10 i11 out14 (nextK (iterS tt (spec_l2Slide_tab F) (spec_l2Slide_LS0 F) 70 (spec_l2Slide_ls3 F) (loopAt 3 (bodyOf Try.f43)) n) k)).trans (congrArg (fun kn => spec_l2Slide_s3 F d0 b12 R (sum10, i11, out14) kn _) (funext (fun ⟨sum10, i11, out14⟩ => spec_l2Slide_iter3 F d0 b12 k n sum10 i11 out14))))
theorem spec_l2Slide_lok3 (F : Nat) : LoopOK Try.prog (loopAt 3 (bodyOf Try.f43)) (spec_l2Slide_ls3 F) := by
  refine loopOK_of mixed ttok deep (spec_l2Slide_tabok F) (loopsOK_at (spec_l2Slide_lsok0 F) 3) (fuel := 70) fun R vals mem np killed k x h => ?_
  simp only [spec_l2Slide_ls3] at h
  split at h
  · rename_i d0 sum10 i11 b12 q_t413 out14
    simp only [GT.run] at h
    have hc := (cond_noneL h).1
    replace h := (cond_noneL h).2
    have hg := (and_split hc).1
    replace hc := (and_split hc).2
    obtain rfl := beq_li hg
    refine ⟨F, (spec_l2Slide_iter3 F d0 b12 k F sum10 i11 out14).trans ((loopC_use (spec_l2Slide_s3_nat F d0 b12) hc _).trans h)⟩
  · simp only [GT.run] at h
    cases h
noncomputable def spec_l2Slide_LS1 (F : Nat) : LT := (3, spec_l2Slide_ls3 F) :: spec_l2Slide_LS0 F
theorem spec_l2Slide_lsok1 (F : Nat) : LoopsOK Try.prog (spec_l2Slide_LS1 F) (bodyOf Try.f43) := loopsOK_cons spec_l2Slide_keys (spec_l2Slide_lok3 F) (spec_l2Slide_lsok0 F)
theorem spec_l2Slide_run (F : Nat) (b0 : List Int) (d1 : Int) : runS tt (spec_l2Slide_tab F) (spec_l2Slide_LS1 F) [] [] Try.f43 (bodyOf Try.f43) 70 [(.ints 16 b0), (.int .i64 d1)] [] = spec_l2Slide_c _ F b0 d1 (fun r => some ⟨(.tup [(.ints 16 r.1), (.int .i64 r.2)]), [], []⟩) := by kernel_rfl
def spec_l2Slide_ent (F : Nat) : Ent := ⟨[], .quiet, fun args mem => match args, mem with
  | [(.ints 16 b0), (.int .i64 d1)], [] => some ((spec_l2Slide_p F b0 d1).isSome, ⟨(.tup [(.ints 16 ((spec_l2Slide_p F b0 d1).getD default).1), (.int .i64 ((spec_l2Slide_p F b0 d1).getD default).2)]), [], []⟩)
  | _, _ => none⟩
theorem spec_l2Slide_fok : FunOK Try.prog 43 := funOK Try.func43 (by kernel_rfl) rfl
theorem spec_l2Slide_meets (F : Nat) : Meets Try.prog 43 (spec_l2Slide_ent F) := by
  refine meets_of_runS mixed ttok deep (spec_l2Slide_tabok F) Try.func43 (body_some rfl) (spec_l2Slide_lsok1 F) fun args mem hfit ret h => ?_
  clear hfit
  simp only [spec_l2Slide_ent] at h
  split at h
  · rename_i b0 d1
    simp only [Option.some.injEq, Prod.mk.injEq] at h
    obtain ⟨hc, rfl⟩ := h
    exact ⟨[], [], 70, _, (spec_l2Slide_run F b0 d1).trans ((spec_l2Slide_cp _ F b0 d1 _).trans (bind_use hc _)), rfl, rfl, rfl⟩
  · cases h

/-! loop.example/g01194/spec.l8Refuted -/
noncomputable def spec_l8Refuted_n1_tab (F : Nat) : Tab := []
theorem spec_l8Refuted_n1_tabok (F : Nat) : TabOK Try.prog (spec_l8Refuted_n1_tab F) := tab_nil
noncomputable def spec_l8Refuted_n1_LS0 (F : Nat) : LT := []
theorem spec_l8Refuted_n1_lsok0 (F : Nat) : LoopsOK Try.prog (spec_l8Refuted_n1_LS0 F) (bodyOf Try.f44) := loopsOK_nil
theorem spec_l8Refuted_n1_run (F : Nat) (next0 : List Int) : runS tt (spec_l8Refuted_n1_tab F) (spec_l8Refuted_n1_LS0 F) [] [] Try.f44 (bodyOf Try.f44) 70 [(.ints 16 next0), (.int .i64 (1 : Int))] [] = spec_l8Refuted_n1_c _ next0 (fun r => some ⟨(.tup [(.ints 3 [(0 : Int), (0 : Int), (0 : Int)]), (.bool false)]), [], []⟩) := by kernel_rfl
def spec_l8Refuted_n1_ent (F : Nat) : Ent := ⟨[], .quiet, fun args mem => match args, mem with
  | [(.ints 16 next0), (.int .i64 q_n1)], [] => bif (q_n1 == (1 : Int)) then some (true, ⟨(.tup [(.ints 3 [(0 : Int), (0 : Int), (0 : Int)]), (.bool false)]), [], []⟩) else none
  | _, _ => none⟩
theorem spec_l8Refuted_n1_fok : FunOK Try.prog 44 := funOK Try.func44 (by kernel_rfl) rfl
theorem spec_l8Refuted_n1_meets (F : Nat) : Meets Try.prog 44 (spec_l8Refuted_n1_ent F) := by
  refine meets_of_runS mixed ttok deep (spec_l8Refuted_n1_tabok F) Try.func44 (body_some rfl) (spec_l8Refuted_n1_lsok0 F) fun args mem hfit ret h => ?_
  clear hfit
  simp only [spec_l8Refuted_n1_ent] at h
  split at h
  · rename_i next0 q_n1
    have hg0 := (cond_noneL h).1
    replace h := (cond_noneL h).2
    obtain rfl := beq_int hg0
    simp only [Option.some.injEq, Prod.mk.injEq] at h
    obtain ⟨hc, rfl⟩ := h
    exact ⟨[], [], 70, _, (spec_l8Refuted_n1_run F next0).trans (spec_l8Refuted_n1_cv _ next0 _), rfl, rfl, rfl⟩
  · cases h

/-! loop.example/g01194/spec.l8Safe -/
noncomputable def spec_l8Safe_n1_tab (F : Nat) : Tab := [(43, (spec_l2Slide_ent F)), (44, (spec_l8Refuted_n1_ent F))]
theorem spec_l8Safe_n1_tabok (F : Nat) : TabOK Try.prog (spec_l8Safe_n1_tab F) := (tab_cons (spec_l2Slide_meets F) spec_l2Slide_fok (tab_cons (spec_l8Refuted_n1_meets F) spec_l8Refuted_n1_fok tab_nil))
noncomputable def spec_l8Safe_n1_LS0 (F : Nat) : LT := []
theorem spec_l8Safe_n1_lsok0 (F : Nat) : LoopsOK Try.prog (spec_l8Safe_n1_LS0 F) (bodyOf Try.f37) := loopsOK_nil
theorem spec_l8Safe_n1_run (F : Nat) (b0 : List Int) (d1 : Int) : runS tt (spec_l8Safe_n1_tab F) (spec_l8Safe_n1_LS0 F) [] [] Try.f37 (bodyOf Try.f37) 70 [(.ints 16 b0), (.int .i64 d1), (.int .i64 (1 : Int))] [] = spec_l8Safe_n1_c _ F b0 d1 (fun r => some ⟨(.bool r), [], []⟩) := by kernel_rfl
def spec_l8Safe_n1_ent (F : Nat) : Ent := ⟨[], .quiet, fun args mem => match args, mem with
  | [(.ints 16 b0), (.int .i64 d1), (.int .i64 q_n2)], [] => bif (q_n2 == (1 : Int)) then some ((spec_l8Safe_n1_p F b0 d1).isSome, ⟨(.bool ((spec_l8Safe_n1_p F b0 d1).getD default)), [], []⟩) else none
  | _, _ => none⟩
theorem spec_l8Safe_n1_fok : FunOK Try.prog 37 := funOK Try.func37 (by kernel_rfl) rfl
theorem spec_l8Safe_n1_meets (F : Nat) : Meets Try.prog 37 (spec_l8Safe_n1_ent F) := by
  refine meets_of_runS mixed ttok deep (spec_l8Safe_n1_tabok F) Try.func37 (body_some rfl) (spec_l8Safe_n1_lsok0 F) fun args mem hfit ret h => ?_
  clear hfit
  simp only [spec_l8Safe_n1_ent] at h
  split at h
  · rename_i b0 d1 q_n2
    have hg0 := (cond_noneL h).1
    replace h := (cond_noneL h).2
    obtain rfl := beq_int hg0
    simp only [Option.some.injEq, Prod.mk.injEq] at h
    obtain ⟨hc, rfl⟩ := h
    exact ⟨[], [], 70, _, (spec_l8Safe_n1_run F b0 d1).trans ((spec_l8Safe_n1_cp _ F b0 d1 _).trans (bind_use hc _)), rfl, rfl, rfl⟩
  · cases h

/-! loop.example/g01194/spec.l8Lasts -/
noncomputable def spec_l8Lasts_n1_tab (F : Nat) : Tab := [(37, (spec_l8Safe_n1_ent F))]
theorem spec_l8Lasts_n1_tabok (F : Nat) : TabOK Try.prog (spec_l8Lasts_n1_tab F) := (tab_cons (spec_l8Safe_n1_meets F) spec_l8Safe_n1_fok tab_nil)
noncomputable def spec_l8Lasts_n1_LS0 (F : Nat) : LT := []
theorem spec_l8Lasts_n1_lsok0 (F : Nat) : LoopsOK Try.prog (spec_l8Lasts_n1_LS0 F) (bodyOf Try.f32) := loopsOK_nil
theorem spec_l8Lasts_n1_keys : keysOK (bodyOf Try.f32) = true := by kernel_rfl
def spec_l8Lasts_n1_st4 (b5 : List Int) (d4 : Int) : St := ⟨expand 16 0 [1, 2, 5] [(.int .i64 (1 : Int)), (.ptr 0 0 0 16), (.int .i64 d4)], [(.var 16 (.ri .i64 b5))], 0, []⟩
def spec_l8Lasts_n1_o4 (b5 : List Int) (x : Bool) : GT := (.br x (.out (.ret ⟨expand 16 0 [4] [(.bool true)], [], 0, []⟩)) (.out (.exit 0 ⟨expand 16 0 [] [], [], 0, []⟩)))
def spec_l8Lasts_n1_ls4 (F : Nat) : LoopS := ⟨16, [1, 2, 5], [], [], [], [4], [], [], fun vals mem np killed => match vals, mem, np, killed with
  | [(.int .i64 q_n0), (.ptr 0 0 0 16), (.int .i64 d4)], [(.var 16 (.ri .i64 b5))], 0, [] => .br ((q_n0 == (1 : Int)) && (spec_l8Lasts_n1_l4 F b5 d4).isSome) (spec_l8Lasts_n1_o4 b5 ((spec_l8Lasts_n1_l4 F b5 d4).getD default)) .fail
  | _, _, _, _ => .fail⟩
theorem spec_l8Lasts_n1_step4 (F : Nat) (b5 : List Int) (d4 : Int) {R : Type} (k : Out → Option R) : stepS tt (spec_l8Lasts_n1_tab F) (spec_l8Lasts_n1_LS0 F) 70 (spec_l8Lasts_n1_ls4 F) (loopAt 4 (bodyOf Try.f32)) (spec_l8Lasts_n1_st4 b5 d4) k = spec_l8Lasts_n1_s4 F b5 R d4 (fun s => k (.norm (spec_l8Lasts_n1_st4 b5 s))) (fun x => (spec_l8Lasts_n1_o4 b5 x).run k) := by kernel_rfl
theorem spec_l8Lasts_n1_iter4 (F : Nat) (b5 : List Int) {R : Type} (k : Out → Option R) : ∀ (n : Nat) (d4 : Int), iterS tt (spec_l8Lasts_n1_tab F) (spec_l8Lasts_n1_LS0 F) 70 (spec_l8Lasts_n1_ls4 F) (loopAt 4 (bodyOf Try.f32)) n (spec_l8Lasts_n1_st4 b5 d4) k = loopC (spec_l8Lasts_n1_s4 F b5) n d4 (fun x => (spec_l8Lasts_n1_o4 b5 x).run k)
  | 0, d4 => rfl
  | n + 1, d4 => (iterS_succ tt (spec_l8Lasts_n1_tab F) (spec_l8Lasts_n1_LS0 F) 70 (spec_l8Lasts_n1_ls4 F) (loopAt 4 (bodyOf Try.f32)) n (spec_l8Lasts_n1_st4 b5 d4) k).trans ((spec_l8Lasts_n1_step4 F b5 d4 (nextK (iterS tt (spec_l8Lasts_n1_tab F) (spec_l8Lasts_n1_LS0 F) 70 (spec_l8Lasts_n1_ls4 F) (loopAt 4 (bodyOf Try.f32)) n) k)).trans (congrArg (fun kn => spec_l8Lasts_n1_s4 F b5 R d4 kn _) (funext (fun d4 => spec_l8Lasts_n1_iter4 F b5 k n d4))))
theorem spec_l8Lasts_n1_lok4 (F : Nat) : LoopOK Try.prog (loopAt 4 (bodyOf Try.f32)) (spec_l8Lasts_n1_ls4 F) := by
  refine loopOK_of mixed ttok deep (spec_l8Lasts_n1_tabok F) (loopsOK_at (spec_l8Lasts_n1_lsok0 F) 4) (fuel := 70) fun R vals mem np killed k x h => ?_
  simp only [spec_l8Lasts_n1_ls4] at h
  split at h
  · rename_i q_n0 d4 b5
    simp only [GT.run] at h
    have hc := (cond_noneL h).1
    replace h := (cond_noneL h).2
    have hg := (and_split hc).1
    replace hc := (and_split hc).2
    obtain rfl := beq_int hg
    refine ⟨F, (spec_l8Lasts_n1_iter4 F b5 k F d4).trans ((loopC_use (spec_l8Lasts_n1_s4_nat F b5) hc _).trans h)⟩
  · simp only [GT.run] at h
    cases h
noncomputable def spec_l8Lasts_n1_LS1 (F : Nat) : LT := (4, spec_l8Lasts_n1_ls4 F) :: spec_l8Lasts_n1_LS0 F
theorem spec_l8Lasts_n1_lsok1 (F : Nat) : LoopsOK Try.prog (spec_l8Lasts_n1_LS1 F) (bodyOf Try.f32) := loopsOK_cons spec_l8Lasts_n1_keys (spec_l8Lasts_n1_lok4 F) (spec_l8Lasts_n1_lsok0 F)
theorem spec_l8Lasts_n1_run (F : Nat) (b0 : List Int) : runS tt (spec_l8Lasts_n1_tab F) (spec_l8Lasts_n1_LS1 F) [] [] Try.f32 (bodyOf Try.f32) 70 [(.ints 16 b0), (.int .i64 (1 : Int))] [] = spec_l8Lasts_n1_c _ F b0 (fun r => some ⟨(.bool r), [], []⟩) := by kernel_rfl
def spec_l8Lasts_n1_ent (F : Nat) : Ent := ⟨[], .quiet, fun args mem => match args, mem with
  | [(.ints 16 b0), (.int .i64 q_n1)], [] => bif (q_n1 == (1 : Int)) then some ((spec_l8Lasts_n1_p F b0).isSome, ⟨(.bool ((spec_l8Lasts_n1_p F b0).getD default)), [], []⟩) else none
  | _, _ => none⟩
theorem spec_l8Lasts_n1_fok : FunOK Try.prog 32 := funOK Try.func32 (by kernel_rfl) rfl
theorem spec_l8Lasts_n1_meets (F : Nat) : Meets Try.prog 32 (spec_l8Lasts_n1_ent F) := by
  refine meets_of_runS mixed ttok deep (spec_l8Lasts_n1_tabok F) Try.func32 (body_some rfl) (spec_l8Lasts_n1_lsok1 F) fun args mem hfit ret h => ?_
  clear hfit
  simp only [spec_l8Lasts_n1_ent] at h
  split at h
  · rename_i b0 q_n1
    have hg0 := (cond_noneL h).1
    replace h := (cond_noneL h).2
    obtain rfl := beq_int hg0
    simp only [Option.some.injEq, Prod.mk.injEq] at h
    obtain ⟨hc, rfl⟩ := h
    exact ⟨[], [], 70, _, (spec_l8Lasts_n1_run F b0).trans ((spec_l8Lasts_n1_cp _ F b0 _).trans (bind_use hc _)), rfl, rfl, rfl⟩
  · cases h

/-! loop.example/g01194/spec.l2Empty -/
noncomputable def spec_l2Empty_tab (F : Nat) : Tab := []
theorem spec_l2Empty_tabok (F : Nat) : TabOK Try.prog (spec_l2Empty_tab F) := tab_nil
noncomputable def spec_l2Empty_LS0 (F : Nat) : LT := []
theorem spec_l2Empty_lsok0 (F : Nat) : LoopsOK Try.prog (spec_l2Empty_LS0 F) (bodyOf Try.f57) := loopsOK_nil
theorem spec_l2Empty_keys : keysOK (bodyOf Try.f57) = true := by kernel_rfl
def spec_l2Empty_st6 (r5 : Int) (b7 : List Int) (c6 : Int) (out8 : List (List Int)) : St := ⟨expand 29 0 [1, 3, 4, 5] [(.ptr 0 0 0 16), (.sl 1 0 (List.length out8)), (.int .i64 r5), (.int .i64 c6)], [(.var 16 (.ri .i64 b7)), (.vec 83 (.rr 2 out8))], 0, []⟩
def spec_l2Empty_o6 (r5 : Int) (b7 : List Int) (x : List (List Int)) : GT := (.out (.exit 2 ⟨expand 29 0 [1, 3, 4] [(.ptr 0 0 0 16), (.sl 1 0 (List.length x)), (.int .i64 r5)], [(.var 16 (.ri .i64 b7)), (.vec 83 (.rr 2 x))], 0, []⟩))
def spec_l2Empty_ls6 (F : Nat) : LoopS := ⟨29, [1, 3, 4, 5], [], [1, 3, 4], [], [2], [], [], fun vals mem np killed => match vals, mem, np, killed with
  | [(.ptr 0 0 0 16), (.sl 1 0 q_out4), (.int .i64 r5), (.int .i64 c6)], [(.var 16 (.ri .i64 b7)), (.vec 83 (.rr 2 out8))], 0, [] => .br ((Nat.beq q_out4 (List.length out8)) && (spec_l2Empty_l6 F r5 b7 c6 out8).isSome) (spec_l2Empty_o6 r5 b7 ((spec_l2Empty_l6 F r5 b7 c6 out8).getD default)) .fail
  | _, _, _, _ => .fail⟩
theorem spec_l2Empty_step6 (F : Nat) (r5 : Int) (b7 : List Int) (c6 : Int) (out8 : List (List Int)) {R : Type} (k : Out → Option R) : stepS tt (spec_l2Empty_tab F) (spec_l2Empty_LS0 F) 70 (spec_l2Empty_ls6 F) (loopAt 6 (bodyOf Try.f57)) (spec_l2Empty_st6 r5 b7 c6 out8) k = spec_l2Empty_s6 F r5 b7 R (c6, out8) (fun s => k (.norm (spec_l2Empty_st6 r5 b7 s.1 s.2))) (fun x => (spec_l2Empty_o6 r5 b7 x).run k) := by kernel_rfl
theorem spec_l2Empty_iter6 (F : Nat) (r5 : Int) (b7 : List Int) {R : Type} (k : Out → Option R) : ∀ (n : Nat) (c6 : Int) (out8 : List (List Int)), iterS tt (spec_l2Empty_tab F) (spec_l2Empty_LS0 F) 70 (spec_l2Empty_ls6 F) (loopAt 6 (bodyOf Try.f57)) n (spec_l2Empty_st6 r5 b7 c6 out8) k = loopC (spec_l2Empty_s6 F r5 b7) n (c6, out8) (fun x => (spec_l2Empty_o6 r5 b7 x).run k)
  | 0, c6, out8 => rfl
  | n + 1, c6, out8 => (iterS_succ tt (spec_l2Empty_tab F) (spec_l2Empty_LS0 F) 70 (spec_l2Empty_ls6 F) (loopAt 6 (bodyOf Try.f57)) n (spec_l2Empty_st6 r5 b7 c6 out8) k).trans ((spec_l2Empty_step6 F r5 b7 c6 out8 (nextK (iterS tt (spec_l2Empty_tab F) (spec_l2Empty_LS0 F) 70 (spec_l2Empty_ls6 F) (loopAt 6 (bodyOf Try.f57)) n) k)).trans (congrArg (fun kn => spec_l2Empty_s6 F r5 b7 R (c6, out8) kn _) (funext (fun ⟨c6, out8⟩ => spec_l2Empty_iter6 F r5 b7 k n c6 out8))))
theorem spec_l2Empty_lok6 (F : Nat) : LoopOK Try.prog (loopAt 6 (bodyOf Try.f57)) (spec_l2Empty_ls6 F) := by
  refine loopOK_of mixed ttok deep (spec_l2Empty_tabok F) (loopsOK_at (spec_l2Empty_lsok0 F) 6) (fuel := 70) fun R vals mem np killed k x h => ?_
  simp only [spec_l2Empty_ls6] at h
  split at h
  · rename_i q_out4 r5 c6 b7 out8
    simp only [GT.run] at h
    have hc := (cond_noneL h).1
    replace h := (cond_noneL h).2
    have hg := (and_split hc).1
    replace hc := (and_split hc).2
    obtain rfl := nbeq_nat hg
    refine ⟨F, (spec_l2Empty_iter6 F r5 b7 k F c6 out8).trans ((loopC_use (spec_l2Empty_s6_nat F r5 b7) hc _).trans h)⟩
  · simp only [GT.run] at h
    cases h
noncomputable def spec_l2Empty_LS1 (F : Nat) : LT := (6, spec_l2Empty_ls6 F) :: spec_l2Empty_LS0 F
theorem spec_l2Empty_lsok1 (F : Nat) : LoopsOK Try.prog (spec_l2Empty_LS1 F) (bodyOf Try.f57) := loopsOK_cons spec_l2Empty_keys (spec_l2Empty_lok6 F) (spec_l2Empty_lsok0 F)
def spec_l2Empty_st3 (b6 : List Int) (r5 : Int) (out7 : List (List Int)) : St := ⟨expand 29 0 [1, 3, 4] [(.ptr 0 0 0 16), (.sl 1 0 (List.length out7)), (.int .i64 r5)], [(.var 16 (.ri .i64 b6)), (.vec 83 (.rr 2 out7))], 0, []⟩
def spec_l2Empty_o3 (b6 : List Int) (x : List (List Int)) : GT := (.out (.exit 0 ⟨expand 29 0 [3] [(.sl 0 0 (List.length x))], [(.vec 83 (.rr 2 x))], 0, []⟩))
def spec_l2Empty_ls3 (F : Nat) : LoopS := ⟨29, [1, 3, 4], [], [3], [], [2], [], [], fun vals mem np killed => match vals, mem, np, killed with
  | [(.ptr 0 0 0 16), (.sl 1 0 q_out4), (.int .i64 r5)], [(.var 16 (.ri .i64 b6)), (.vec 83 (.rr 2 out7))], 0, [] => .br ((Nat.beq q_out4 (List.length out7)) && (spec_l2Empty_l3 F b6 r5 out7).isSome) (spec_l2Empty_o3 b6 ((spec_l2Empty_l3 F b6 r5 out7).getD default)) .fail
  | _, _, _, _ => .fail⟩
theorem spec_l2Empty_step3 (F : Nat) (b6 : List Int) (r5 : Int) (out7 : List (List Int)) {R : Type} (k : Out → Option R) : stepS tt (spec_l2Empty_tab F) (spec_l2Empty_LS1 F) 70 (spec_l2Empty_ls3 F) (loopAt 3 (bodyOf Try.f57)) (spec_l2Empty_st3 b6 r5 out7) k = spec_l2Empty_s3 F b6 R (r5, out7) (fun s => k (.norm (spec_l2Empty_st3 b6 s.1 s.2))) (fun x => (spec_l2Empty_o3 b6 x).run k) := by kernel_rfl
theorem spec_l2Empty_iter3 (F : Nat) (b6 : List Int) {R : Type} (k : Out → Option R) : ∀ (n : Nat) (r5 : Int) (out7 : List (List Int)), iterS tt (spec_l2Empty_tab F) (spec_l2Empty_LS1 F) 70 (spec_l2Empty_ls3 F) (loopAt 3 (bodyOf Try.f57)) n (spec_l2Empty_st3 b6 r5 out7) k = loopC (spec_l2Empty_s3 F b6) n (r5, out7) (fun x => (spec_l2Empty_o3 b6 x).run k)
  | 0, r5, out7 => rfl
  | n + 1, r5, out7 => (iterS_succ tt (spec_l2Empty_tab F) (spec_l2Empty_LS1 F) 70 (spec_l2Empty_ls3 F) (loopAt 3 (bodyOf Try.f57)) n (spec_l2Empty_st3 b6 r5 out7) k).trans ((spec_l2Empty_step3 F b6 r5 out7 (nextK (iterS tt (spec_l2Empty_tab F) (spec_l2Empty_LS1 F) 70 (spec_l2Empty_ls3 F) (loopAt 3 (bodyOf Try.f57)) n) k)).trans (congrArg (fun kn => spec_l2Empty_s3 F b6 R (r5, out7) kn _) (funext (fun ⟨r5, out7⟩ => spec_l2Empty_iter3 F b6 k n r5 out7))))
theorem spec_l2Empty_lok3 (F : Nat) : LoopOK Try.prog (loopAt 3 (bodyOf Try.f57)) (spec_l2Empty_ls3 F) := by
  refine loopOK_of mixed ttok deep (spec_l2Empty_tabok F) (loopsOK_at (spec_l2Empty_lsok1 F) 3) (fuel := 70) fun R vals mem np killed k x h => ?_
  simp only [spec_l2Empty_ls3] at h
  split at h
  · rename_i q_out4 r5 b6 out7
    simp only [GT.run] at h
    have hc := (cond_noneL h).1
    replace h := (cond_noneL h).2
    have hg := (and_split hc).1
    replace hc := (and_split hc).2
    obtain rfl := nbeq_nat hg
    refine ⟨F, (spec_l2Empty_iter3 F b6 k F r5 out7).trans ((loopC_use (spec_l2Empty_s3_nat F b6) hc _).trans h)⟩
  · simp only [GT.run] at h
    cases h
noncomputable def spec_l2Empty_LS2 (F : Nat) : LT := (3, spec_l2Empty_ls3 F) :: spec_l2Empty_LS1 F
theorem spec_l2Empty_lsok2 (F : Nat) : LoopsOK Try.prog (spec_l2Empty_LS2 F) (bodyOf Try.f57) := loopsOK_cons spec_l2Empty_keys (spec_l2Empty_lok3 F) (spec_l2Empty_lsok1 F)
theorem spec_l2Empty_run (F : Nat) (b0 : List Int) : runS tt (spec_l2Empty_tab F) (spec_l2Empty_LS2 F) [] [] Try.f57 (bodyOf Try.f57) 70 [(.ints 16 b0)] [] = spec_l2Empty_c _ F b0 (fun r => some ⟨(.sl 0 0 (List.length r)), [(.vec 83 (.rr 2 r))], []⟩) := by kernel_rfl
def spec_l2Empty_ent (F : Nat) : Ent := ⟨[], .fresh, fun args mem => match args, mem with
  | [(.ints 16 b0)], [] => some ((spec_l2Empty_p F b0).isSome, ⟨(.sl 0 0 (List.length ((spec_l2Empty_p F b0).getD default))), [(.vec 83 (.rr 2 ((spec_l2Empty_p F b0).getD default)))], []⟩)
  | _, _ => none⟩
theorem spec_l2Empty_fok : FunOK Try.prog 57 := funOK Try.func57 (by kernel_rfl) rfl
theorem spec_l2Empty_meets (F : Nat) : Meets Try.prog 57 (spec_l2Empty_ent F) := by
  refine meets_of_runS mixed ttok deep (spec_l2Empty_tabok F) Try.func57 (body_some rfl) (spec_l2Empty_lsok2 F) fun args mem hfit ret h => ?_
  clear hfit
  simp only [spec_l2Empty_ent] at h
  split at h
  · rename_i b0
    simp only [Option.some.injEq, Prod.mk.injEq] at h
    obtain ⟨hc, rfl⟩ := h
    exact ⟨[], [], 70, _, (spec_l2Empty_run F b0).trans ((spec_l2Empty_cp _ F b0 _).trans (bind_use hc _)), rfl, rfl, rfl⟩
  · cases h

/-! loop.example/g01194/spec.l8Places -/
noncomputable def spec_l8Places_tab (F : Nat) : Tab := [(57, (spec_l2Empty_ent F))]
theorem spec_l8Places_tabok (F : Nat) : TabOK Try.prog (spec_l8Places_tab F) := (tab_cons (spec_l2Empty_meets F) spec_l2Empty_fok tab_nil)
noncomputable def spec_l8Places_LS0 (F : Nat) : LT := []
theorem spec_l8Places_lsok0 (F : Nat) : LoopsOK Try.prog (spec_l8Places_LS0 F) (bodyOf Try.f50) := loopsOK_nil
theorem spec_l8Places_keys : keysOK (bodyOf Try.f50) = true := by kernel_rfl
def spec_l8Places_st3 (empty6 : List (List Int)) (i4 : Int) (out5 : List (List Int)) : St := ⟨expand 41 0 [3, 4, 5] [(.sl 0 0 (List.length out5)), (.sl 1 0 (List.length empty6)), (.int .i64 i4)], [(.vec 40 (.rr 3 out5)), (.vec 83 (.rr 2 empty6))], 0, []⟩
def spec_l8Places_o3 (empty6 : List (List Int)) (x : List (List Int)) : GT := (.out (.exit 0 ⟨expand 41 0 [3] [(.sl 0 0 (List.length x))], [(.vec 40 (.rr 3 x))], 0, []⟩))
def spec_l8Places_ls3 (F : Nat) : LoopS := ⟨41, [3, 4, 5], [], [3], [], [2], [], [], fun vals mem np killed => match vals, mem, np, killed with
  | [(.sl 0 0 q_out1), (.sl 1 0 q_empty3), (.int .i64 i4)], [(.vec 40 (.rr 3 out5)), (.vec 83 (.rr 2 empty6))], 0, [] => .br ((Nat.beq q_out1 (List.length out5)) && ((Nat.beq q_empty3 (List.length empty6)) && (spec_l8Places_l3 F empty6 i4 out5).isSome)) (spec_l8Places_o3 empty6 ((spec_l8Places_l3 F empty6 i4 out5).getD default)) .fail
  | _, _, _, _ => .fail⟩
theorem spec_l8Places_step3 (F : Nat) (empty6 : List (List Int)) (i4 : Int) (out5 : List (List Int)) {R : Type} (k : Out → Option R) : stepS tt (spec_l8Places_tab F) (spec_l8Places_LS0 F) 70 (spec_l8Places_ls3 F) (loopAt 3 (bodyOf Try.f50)) (spec_l8Places_st3 empty6 i4 out5) k = spec_l8Places_s3 F empty6 R (i4, out5) (fun s => k (.norm (spec_l8Places_st3 empty6 s.1 s.2))) (fun x => (spec_l8Places_o3 empty6 x).run k) := by kernel_rfl
theorem spec_l8Places_iter3 (F : Nat) (empty6 : List (List Int)) {R : Type} (k : Out → Option R) : ∀ (n : Nat) (i4 : Int) (out5 : List (List Int)), iterS tt (spec_l8Places_tab F) (spec_l8Places_LS0 F) 70 (spec_l8Places_ls3 F) (loopAt 3 (bodyOf Try.f50)) n (spec_l8Places_st3 empty6 i4 out5) k = loopC (spec_l8Places_s3 F empty6) n (i4, out5) (fun x => (spec_l8Places_o3 empty6 x).run k)
  | 0, i4, out5 => rfl
  | n + 1, i4, out5 => (iterS_succ tt (spec_l8Places_tab F) (spec_l8Places_LS0 F) 70 (spec_l8Places_ls3 F) (loopAt 3 (bodyOf Try.f50)) n (spec_l8Places_st3 empty6 i4 out5) k).trans ((spec_l8Places_step3 F empty6 i4 out5 (nextK (iterS tt (spec_l8Places_tab F) (spec_l8Places_LS0 F) 70 (spec_l8Places_ls3 F) (loopAt 3 (bodyOf Try.f50)) n) k)).trans (congrArg (fun kn => spec_l8Places_s3 F empty6 R (i4, out5) kn _) (funext (fun ⟨i4, out5⟩ => spec_l8Places_iter3 F empty6 k n i4 out5))))
theorem spec_l8Places_lok3 (F : Nat) : LoopOK Try.prog (loopAt 3 (bodyOf Try.f50)) (spec_l8Places_ls3 F) := by
  refine loopOK_of mixed ttok deep (spec_l8Places_tabok F) (loopsOK_at (spec_l8Places_lsok0 F) 3) (fuel := 70) fun R vals mem np killed k x h => ?_
  simp only [spec_l8Places_ls3] at h
  split at h
  · rename_i q_out1 q_empty3 i4 out5 empty6
    simp only [GT.run] at h
    have hc := (cond_noneL h).1
    replace h := (cond_noneL h).2
    have hg := (and_split hc).1
    replace hc := (and_split hc).2
    obtain rfl := nbeq_nat hg
    have hg := (and_split hc).1
    replace hc := (and_split hc).2
    obtain rfl := nbeq_nat hg
    refine ⟨F, (spec_l8Places_iter3 F empty6 k F i4 out5).trans ((loopC_use (spec_l8Places_s3_nat F empty6) hc _).trans h)⟩
  · simp only [GT.run] at h
    cases h
noncomputable def spec_l8Places_LS1 (F : Nat) : LT := (3, spec_l8Places_ls3 F) :: spec_l8Places_LS0 F
theorem spec_l8Places_lsok1 (F : Nat) : LoopsOK Try.prog (spec_l8Places_LS1 F) (bodyOf Try.f50) := loopsOK_cons spec_l8Places_keys (spec_l8Places_lok3 F) (spec_l8Places_lsok0 F)
theorem spec_l8Places_run (F : Nat) (b0 : List Int) : runS tt (spec_l8Places_tab F) (spec_l8Places_LS1 F) [] [] Try.f50 (bodyOf Try.f50) 70 [(.ints 16 b0)] [] = spec_l8Places_c _ F b0 (fun r => some ⟨(.sl 0 0 (List.length r)), [(.vec 40 (.rr 3 r))], []⟩) := by kernel_rfl
def spec_l8Places_ent (F : Nat) : Ent := ⟨[], .fresh, fun args mem => match args, mem with
  | [(.ints 16 b0)], [] => some ((spec_l8Places_p F b0).isSome, ⟨(.sl 0 0 (List.length ((spec_l8Places_p F b0).getD default))), [(.vec 40 (.rr 3 ((spec_l8Places_p F b0).getD default)))], []⟩)
  | _, _ => none⟩
theorem spec_l8Places_fok : FunOK Try.prog 50 := funOK Try.func50 (by kernel_rfl) rfl
theorem spec_l8Places_meets (F : Nat) : Meets Try.prog 50 (spec_l8Places_ent F) := by
  refine meets_of_runS mixed ttok deep (spec_l8Places_tabok F) Try.func50 (body_some rfl) (spec_l8Places_lsok1 F) fun args mem hfit ret h => ?_
  clear hfit
  simp only [spec_l8Places_ent] at h
  split at h
  · rename_i b0
    simp only [Option.some.injEq, Prod.mk.injEq] at h
    obtain ⟨hc, rfl⟩ := h
    exact ⟨[], [], 70, _, (spec_l8Places_run F b0).trans ((spec_l8Places_cp _ F b0 _).trans (bind_use hc _)), rfl, rfl, rfl⟩
  · cases h

/-! loop.example/g01194/spec.l8Put -/
noncomputable def spec_l8Put_tab (F : Nat) : Tab := [(72, (spec_l2Put_ent F))]
theorem spec_l8Put_tabok (F : Nat) : TabOK Try.prog (spec_l8Put_tab F) := (tab_cons (spec_l2Put_meets F) spec_l2Put_fok tab_nil)
noncomputable def spec_l8Put_LS0 (F : Nat) : LT := []
theorem spec_l8Put_lsok0 (F : Nat) : LoopsOK Try.prog (spec_l8Put_LS0 F) (bodyOf Try.f52) := loopsOK_nil
theorem spec_l8Put_run (F : Nat) (b0 : List Int) (p1 : List Int) : runS tt (spec_l8Put_tab F) (spec_l8Put_LS0 F) [] [] Try.f52 (bodyOf Try.f52) 70 [(.ints 16 b0), (.ints 3 p1)] [] = spec_l8Put_c _ b0 p1 (fun r => some ⟨(.ints 16 r), [], []⟩) := by kernel_rfl
def spec_l8Put_ent (F : Nat) : Ent := ⟨[], .quiet, fun args mem => match args, mem with
  | [(.ints 16 b0), (.ints 3 p1)], [] => some ((spec_l8Put_p b0 p1).isSome, ⟨(.ints 16 ((spec_l8Put_p b0 p1).getD default)), [], []⟩)
  | _, _ => none⟩
theorem spec_l8Put_fok : FunOK Try.prog 52 := funOK Try.func52 (by kernel_rfl) rfl
theorem spec_l8Put_meets (F : Nat) : Meets Try.prog 52 (spec_l8Put_ent F) := by
  refine meets_of_runS mixed ttok deep (spec_l8Put_tabok F) Try.func52 (body_some rfl) (spec_l8Put_lsok0 F) fun args mem hfit ret h => ?_
  clear hfit
  simp only [spec_l8Put_ent] at h
  split at h
  · rename_i b0 p1
    simp only [Option.some.injEq, Prod.mk.injEq] at h
    obtain ⟨hc, rfl⟩ := h
    exact ⟨[], [], 70, _, (spec_l8Put_run F b0 p1).trans ((spec_l8Put_cp _ b0 p1 _).trans (bind_use hc _)), rfl, rfl, rfl⟩
  · cases h

/-! loop.example/g01194/spec.l8Refuted -/
noncomputable def spec_l8Refuted_n2_tab (F : Nat) : Tab := [(50, (spec_l8Places_ent F)), (52, (spec_l8Put_ent F)), (32, (spec_l8Lasts_n1_ent F))]
theorem spec_l8Refuted_n2_tabok (F : Nat) : TabOK Try.prog (spec_l8Refuted_n2_tab F) := (tab_cons (spec_l8Places_meets F) spec_l8Places_fok (tab_cons (spec_l8Put_meets F) spec_l8Put_fok (tab_cons (spec_l8Lasts_n1_meets F) spec_l8Lasts_n1_fok tab_nil)))
noncomputable def spec_l8Refuted_n2_LS0 (F : Nat) : LT := []
theorem spec_l8Refuted_n2_lsok0 (F : Nat) : LoopsOK Try.prog (spec_l8Refuted_n2_LS0 F) (bodyOf Try.f44) := loopsOK_nil
theorem spec_l8Refuted_n2_keys : keysOK (bodyOf Try.f44) = true := by kernel_rfl
def spec_l8Refuted_n2_st5 (next10 : List Int) (all12 : List (List Int)) (i9 : Int) : St := ⟨expand 34 0 [1, 2, 4, 6, 7] [(.int .i64 (2 : Int)), (.ptr 0 0 0 16), (.ptr 1 0 0 3), (.sl 2 0 (List.length all12)), (.int .i64 i9)], [(.var 16 (.ri .i64 next10)), (.var 3 (.ri .i64 [(0 : Int), (0 : Int), (0 : Int)])), (.vec 40 (.rr 3 all12))], 0, []⟩
def spec_l8Refuted_n2_o5 (next10 : List Int) (all12 : List (List Int)) (x : Bool × List Int) : GT := (.br x.1 (.out (.ret ⟨expand 34 0 [4, 5] [(.ptr 0 0 0 3), (.bool true)], [(.var 3 (.ri .i64 x.2))], 0, []⟩)) (.out (.exit 0 ⟨expand 34 0 [4] [(.ptr 0 0 0 3)], [(.var 3 (.ri .i64 [(0 : Int), (0 : Int), (0 : Int)]))], 0, []⟩)))
def spec_l8Refuted_n2_ls5 (F : Nat) : LoopS := ⟨34, [1, 2, 4, 6, 7], [], [4], [], [4, 5], [], [], fun vals mem np killed => match vals, mem, np, killed with
  | [(.int .i64 q_n0), (.ptr 0 0 0 16), (.ptr 1 0 0 3), (.sl 2 0 q_all8), (.int .i64 i9)], [(.var 16 (.ri .i64 next10)), (.var 3 (.ri .i64 q_t411)), (.vec 40 (.rr 3 all12))], 0, [] => .br ((q_n0 == (2 : Int)) && ((q_t411 == ([(0 : Int), (0 : Int), (0 : Int)] : List Int)) && ((Nat.beq q_all8 (List.length all12)) && (spec_l8Refuted_n2_l5 F next10 all12 i9).isSome))) (spec_l8Refuted_n2_o5 next10 all12 ((spec_l8Refuted_n2_l5 F next10 all12 i9).getD default)) .fail
  | _, _, _, _ => .fail⟩
theorem spec_l8Refuted_n2_step5 (F : Nat) (next10 : List Int) (all12 : List (List Int)) (i9 : Int) {R : Type} (k : Out → Option R) : stepS tt (spec_l8Refuted_n2_tab F) (spec_l8Refuted_n2_LS0 F) 70 (spec_l8Refuted_n2_ls5 F) (loopAt 5 (bodyOf Try.f44)) (spec_l8Refuted_n2_st5 next10 all12 i9) k = spec_l8Refuted_n2_s5 F next10 all12 R i9 (fun s => k (.norm (spec_l8Refuted_n2_st5 next10 all12 s))) (fun x => (spec_l8Refuted_n2_o5 next10 all12 x).run k) := by kernel_rfl
theorem spec_l8Refuted_n2_iter5 (F : Nat) (next10 : List Int) (all12 : List (List Int)) {R : Type} (k : Out → Option R) : ∀ (n : Nat) (i9 : Int), iterS tt (spec_l8Refuted_n2_tab F) (spec_l8Refuted_n2_LS0 F) 70 (spec_l8Refuted_n2_ls5 F) (loopAt 5 (bodyOf Try.f44)) n (spec_l8Refuted_n2_st5 next10 all12 i9) k = loopC (spec_l8Refuted_n2_s5 F next10 all12) n i9 (fun x => (spec_l8Refuted_n2_o5 next10 all12 x).run k)
  | 0, i9 => rfl
  | n + 1, i9 => (iterS_succ tt (spec_l8Refuted_n2_tab F) (spec_l8Refuted_n2_LS0 F) 70 (spec_l8Refuted_n2_ls5 F) (loopAt 5 (bodyOf Try.f44)) n (spec_l8Refuted_n2_st5 next10 all12 i9) k).trans ((spec_l8Refuted_n2_step5 F next10 all12 i9 (nextK (iterS tt (spec_l8Refuted_n2_tab F) (spec_l8Refuted_n2_LS0 F) 70 (spec_l8Refuted_n2_ls5 F) (loopAt 5 (bodyOf Try.f44)) n) k)).trans (congrArg (fun kn => spec_l8Refuted_n2_s5 F next10 all12 R i9 kn _) (funext (fun i9 => spec_l8Refuted_n2_iter5 F next10 all12 k n i9))))
theorem spec_l8Refuted_n2_lok5 (F : Nat) : LoopOK Try.prog (loopAt 5 (bodyOf Try.f44)) (spec_l8Refuted_n2_ls5 F) := by
  refine loopOK_of mixed ttok deep (spec_l8Refuted_n2_tabok F) (loopsOK_at (spec_l8Refuted_n2_lsok0 F) 5) (fuel := 70) fun R vals mem np killed k x h => ?_
  simp only [spec_l8Refuted_n2_ls5] at h
  split at h
  · rename_i q_n0 q_all8 i9 next10 q_t411 all12
    simp only [GT.run] at h
    have hc := (cond_noneL h).1
    replace h := (cond_noneL h).2
    have hg := (and_split hc).1
    replace hc := (and_split hc).2
    obtain rfl := beq_int hg
    have hg := (and_split hc).1
    replace hc := (and_split hc).2
    obtain rfl := beq_li hg
    have hg := (and_split hc).1
    replace hc := (and_split hc).2
    obtain rfl := nbeq_nat hg
    refine ⟨F, (spec_l8Refuted_n2_iter5 F next10 all12 k F i9).trans ((loopC_use (spec_l8Refuted_n2_s5_nat F next10 all12) hc _).trans h)⟩
  · simp only [GT.run] at h
    cases h
noncomputable def spec_l8Refuted_n2_LS1 (F : Nat) : LT := (5, spec_l8Refuted_n2_ls5 F) :: spec_l8Refuted_n2_LS0 F
theorem spec_l8Refuted_n2_lsok1 (F : Nat) : LoopsOK Try.prog (spec_l8Refuted_n2_LS1 F) (bodyOf Try.f44) := loopsOK_cons spec_l8Refuted_n2_keys (spec_l8Refuted_n2_lok5 F) (spec_l8Refuted_n2_lsok0 F)
theorem spec_l8Refuted_n2_run (F : Nat) (next0 : List Int) : runS tt (spec_l8Refuted_n2_tab F) (spec_l8Refuted_n2_LS1 F) [] [] Try.f44 (bodyOf Try.f44) 70 [(.ints 16 next0), (.int .i64 (2 : Int))] [] = spec_l8Refuted_n2_c _ F next0 (fun r => some ⟨(.tup [(.ints 3 r.1), (.bool r.2)]), [], []⟩) := by kernel_rfl
def spec_l8Refuted_n2_ent (F : Nat) : Ent := ⟨[], .quiet, fun args mem => match args, mem with
  | [(.ints 16 next0), (.int .i64 q_n1)], [] => bif (q_n1 == (2 : Int)) then some ((spec_l8Refuted_n2_p F next0).isSome, ⟨(.tup [(.ints 3 ((spec_l8Refuted_n2_p F next0).getD default).1), (.bool ((spec_l8Refuted_n2_p F next0).getD default).2)]), [], []⟩) else none
  | _, _ => none⟩
theorem spec_l8Refuted_n2_fok : FunOK Try.prog 44 := funOK Try.func44 (by kernel_rfl) rfl
theorem spec_l8Refuted_n2_meets (F : Nat) : Meets Try.prog 44 (spec_l8Refuted_n2_ent F) := by
  refine meets_of_runS mixed ttok deep (spec_l8Refuted_n2_tabok F) Try.func44 (body_some rfl) (spec_l8Refuted_n2_lsok1 F) fun args mem hfit ret h => ?_
  clear hfit
  simp only [spec_l8Refuted_n2_ent] at h
  split at h
  · rename_i next0 q_n1
    have hg0 := (cond_noneL h).1
    replace h := (cond_noneL h).2
    obtain rfl := beq_int hg0
    simp only [Option.some.injEq, Prod.mk.injEq] at h
    obtain ⟨hc, rfl⟩ := h
    exact ⟨[], [], 70, _, (spec_l8Refuted_n2_run F next0).trans ((spec_l8Refuted_n2_cp _ F next0 _).trans (bind_use hc _)), rfl, rfl, rfl⟩
  · cases h

/-! loop.example/g01194/spec.l8Safe -/
noncomputable def spec_l8Safe_n2_tab (F : Nat) : Tab := [(43, (spec_l2Slide_ent F)), (44, (spec_l8Refuted_n2_ent F))]
theorem spec_l8Safe_n2_tabok (F : Nat) : TabOK Try.prog (spec_l8Safe_n2_tab F) := (tab_cons (spec_l2Slide_meets F) spec_l2Slide_fok (tab_cons (spec_l8Refuted_n2_meets F) spec_l8Refuted_n2_fok tab_nil))
noncomputable def spec_l8Safe_n2_LS0 (F : Nat) : LT := []
theorem spec_l8Safe_n2_lsok0 (F : Nat) : LoopsOK Try.prog (spec_l8Safe_n2_LS0 F) (bodyOf Try.f37) := loopsOK_nil
theorem spec_l8Safe_n2_run (F : Nat) (b0 : List Int) (d1 : Int) : runS tt (spec_l8Safe_n2_tab F) (spec_l8Safe_n2_LS0 F) [] [] Try.f37 (bodyOf Try.f37) 70 [(.ints 16 b0), (.int .i64 d1), (.int .i64 (2 : Int))] [] = spec_l8Safe_n2_c _ F b0 d1 (fun r => some ⟨(.bool r), [], []⟩) := by kernel_rfl
def spec_l8Safe_n2_ent (F : Nat) : Ent := ⟨[], .quiet, fun args mem => match args, mem with
  | [(.ints 16 b0), (.int .i64 d1), (.int .i64 q_n2)], [] => bif (q_n2 == (2 : Int)) then some ((spec_l8Safe_n2_p F b0 d1).isSome, ⟨(.bool ((spec_l8Safe_n2_p F b0 d1).getD default)), [], []⟩) else none
  | _, _ => none⟩
theorem spec_l8Safe_n2_fok : FunOK Try.prog 37 := funOK Try.func37 (by kernel_rfl) rfl
theorem spec_l8Safe_n2_meets (F : Nat) : Meets Try.prog 37 (spec_l8Safe_n2_ent F) := by
  refine meets_of_runS mixed ttok deep (spec_l8Safe_n2_tabok F) Try.func37 (body_some rfl) (spec_l8Safe_n2_lsok0 F) fun args mem hfit ret h => ?_
  clear hfit
  simp only [spec_l8Safe_n2_ent] at h
  split at h
  · rename_i b0 d1 q_n2
    have hg0 := (cond_noneL h).1
    replace h := (cond_noneL h).2
    obtain rfl := beq_int hg0
    simp only [Option.some.injEq, Prod.mk.injEq] at h
    obtain ⟨hc, rfl⟩ := h
    exact ⟨[], [], 70, _, (spec_l8Safe_n2_run F b0 d1).trans ((spec_l8Safe_n2_cp _ F b0 d1 _).trans (bind_use hc _)), rfl, rfl, rfl⟩
  · cases h

/-! loop.example/g01194/spec.l8Lasts -/
noncomputable def spec_l8Lasts_n2_tab (F : Nat) : Tab := [(37, (spec_l8Safe_n2_ent F))]
theorem spec_l8Lasts_n2_tabok (F : Nat) : TabOK Try.prog (spec_l8Lasts_n2_tab F) := (tab_cons (spec_l8Safe_n2_meets F) spec_l8Safe_n2_fok tab_nil)
noncomputable def spec_l8Lasts_n2_LS0 (F : Nat) : LT := []
theorem spec_l8Lasts_n2_lsok0 (F : Nat) : LoopsOK Try.prog (spec_l8Lasts_n2_LS0 F) (bodyOf Try.f32) := loopsOK_nil
theorem spec_l8Lasts_n2_keys : keysOK (bodyOf Try.f32) = true := by kernel_rfl
def spec_l8Lasts_n2_st4 (b5 : List Int) (d4 : Int) : St := ⟨expand 16 0 [1, 2, 5] [(.int .i64 (2 : Int)), (.ptr 0 0 0 16), (.int .i64 d4)], [(.var 16 (.ri .i64 b5))], 0, []⟩
def spec_l8Lasts_n2_o4 (b5 : List Int) (x : Bool) : GT := (.br x (.out (.ret ⟨expand 16 0 [4] [(.bool true)], [], 0, []⟩)) (.out (.exit 0 ⟨expand 16 0 [] [], [], 0, []⟩)))
def spec_l8Lasts_n2_ls4 (F : Nat) : LoopS := ⟨16, [1, 2, 5], [], [], [], [4], [], [], fun vals mem np killed => match vals, mem, np, killed with
  | [(.int .i64 q_n0), (.ptr 0 0 0 16), (.int .i64 d4)], [(.var 16 (.ri .i64 b5))], 0, [] => .br ((q_n0 == (2 : Int)) && (spec_l8Lasts_n2_l4 F b5 d4).isSome) (spec_l8Lasts_n2_o4 b5 ((spec_l8Lasts_n2_l4 F b5 d4).getD default)) .fail
  | _, _, _, _ => .fail⟩
theorem spec_l8Lasts_n2_step4 (F : Nat) (b5 : List Int) (d4 : Int) {R : Type} (k : Out → Option R) : stepS tt (spec_l8Lasts_n2_tab F) (spec_l8Lasts_n2_LS0 F) 70 (spec_l8Lasts_n2_ls4 F) (loopAt 4 (bodyOf Try.f32)) (spec_l8Lasts_n2_st4 b5 d4) k = spec_l8Lasts_n2_s4 F b5 R d4 (fun s => k (.norm (spec_l8Lasts_n2_st4 b5 s))) (fun x => (spec_l8Lasts_n2_o4 b5 x).run k) := by kernel_rfl
theorem spec_l8Lasts_n2_iter4 (F : Nat) (b5 : List Int) {R : Type} (k : Out → Option R) : ∀ (n : Nat) (d4 : Int), iterS tt (spec_l8Lasts_n2_tab F) (spec_l8Lasts_n2_LS0 F) 70 (spec_l8Lasts_n2_ls4 F) (loopAt 4 (bodyOf Try.f32)) n (spec_l8Lasts_n2_st4 b5 d4) k = loopC (spec_l8Lasts_n2_s4 F b5) n d4 (fun x => (spec_l8Lasts_n2_o4 b5 x).run k)
  | 0, d4 => rfl
  | n + 1, d4 => (iterS_succ tt (spec_l8Lasts_n2_tab F) (spec_l8Lasts_n2_LS0 F) 70 (spec_l8Lasts_n2_ls4 F) (loopAt 4 (bodyOf Try.f32)) n (spec_l8Lasts_n2_st4 b5 d4) k).trans ((spec_l8Lasts_n2_step4 F b5 d4 (nextK (iterS tt (spec_l8Lasts_n2_tab F) (spec_l8Lasts_n2_LS0 F) 70 (spec_l8Lasts_n2_ls4 F) (loopAt 4 (bodyOf Try.f32)) n) k)).trans (congrArg (fun kn => spec_l8Lasts_n2_s4 F b5 R d4 kn _) (funext (fun d4 => spec_l8Lasts_n2_iter4 F b5 k n d4))))
theorem spec_l8Lasts_n2_lok4 (F : Nat) : LoopOK Try.prog (loopAt 4 (bodyOf Try.f32)) (spec_l8Lasts_n2_ls4 F) := by
  refine loopOK_of mixed ttok deep (spec_l8Lasts_n2_tabok F) (loopsOK_at (spec_l8Lasts_n2_lsok0 F) 4) (fuel := 70) fun R vals mem np killed k x h => ?_
  simp only [spec_l8Lasts_n2_ls4] at h
  split at h
  · rename_i q_n0 d4 b5
    simp only [GT.run] at h
    have hc := (cond_noneL h).1
    replace h := (cond_noneL h).2
    have hg := (and_split hc).1
    replace hc := (and_split hc).2
    obtain rfl := beq_int hg
    refine ⟨F, (spec_l8Lasts_n2_iter4 F b5 k F d4).trans ((loopC_use (spec_l8Lasts_n2_s4_nat F b5) hc _).trans h)⟩
  · simp only [GT.run] at h
    cases h
noncomputable def spec_l8Lasts_n2_LS1 (F : Nat) : LT := (4, spec_l8Lasts_n2_ls4 F) :: spec_l8Lasts_n2_LS0 F
theorem spec_l8Lasts_n2_lsok1 (F : Nat) : LoopsOK Try.prog (spec_l8Lasts_n2_LS1 F) (bodyOf Try.f32) := loopsOK_cons spec_l8Lasts_n2_keys (spec_l8Lasts_n2_lok4 F) (spec_l8Lasts_n2_lsok0 F)
theorem spec_l8Lasts_n2_run (F : Nat) (b0 : List Int) : runS tt (spec_l8Lasts_n2_tab F) (spec_l8Lasts_n2_LS1 F) [] [] Try.f32 (bodyOf Try.f32) 70 [(.ints 16 b0), (.int .i64 (2 : Int))] [] = spec_l8Lasts_n2_c _ F b0 (fun r => some ⟨(.bool r), [], []⟩) := by kernel_rfl
def spec_l8Lasts_n2_ent (F : Nat) : Ent := ⟨[], .quiet, fun args mem => match args, mem with
  | [(.ints 16 b0), (.int .i64 q_n1)], [] => bif (q_n1 == (2 : Int)) then some ((spec_l8Lasts_n2_p F b0).isSome, ⟨(.bool ((spec_l8Lasts_n2_p F b0).getD default)), [], []⟩) else none
  | _, _ => none⟩
theorem spec_l8Lasts_n2_fok : FunOK Try.prog 32 := funOK Try.func32 (by kernel_rfl) rfl
theorem spec_l8Lasts_n2_meets (F : Nat) : Meets Try.prog 32 (spec_l8Lasts_n2_ent F) := by
  refine meets_of_runS mixed ttok deep (spec_l8Lasts_n2_tabok F) Try.func32 (body_some rfl) (spec_l8Lasts_n2_lsok1 F) fun args mem hfit ret h => ?_
  clear hfit
  simp only [spec_l8Lasts_n2_ent] at h
  split at h
  · rename_i b0 q_n1
    have hg0 := (cond_noneL h).1
    replace h := (cond_noneL h).2
    obtain rfl := beq_int hg0
    simp only [Option.some.injEq, Prod.mk.injEq] at h
    obtain ⟨hc, rfl⟩ := h
    exact ⟨[], [], 70, _, (spec_l8Lasts_n2_run F b0).trans ((spec_l8Lasts_n2_cp _ F b0 _).trans (bind_use hc _)), rfl, rfl, rfl⟩
  · cases h

/-! loop.example/g01194/spec.l8Refuted -/
noncomputable def spec_l8Refuted_n3_tab (F : Nat) : Tab := [(50, (spec_l8Places_ent F)), (52, (spec_l8Put_ent F)), (32, (spec_l8Lasts_n2_ent F))]
theorem spec_l8Refuted_n3_tabok (F : Nat) : TabOK Try.prog (spec_l8Refuted_n3_tab F) := (tab_cons (spec_l8Places_meets F) spec_l8Places_fok (tab_cons (spec_l8Put_meets F) spec_l8Put_fok (tab_cons (spec_l8Lasts_n2_meets F) spec_l8Lasts_n2_fok tab_nil)))
noncomputable def spec_l8Refuted_n3_LS0 (F : Nat) : LT := []
theorem spec_l8Refuted_n3_lsok0 (F : Nat) : LoopsOK Try.prog (spec_l8Refuted_n3_LS0 F) (bodyOf Try.f44) := loopsOK_nil
theorem spec_l8Refuted_n3_keys : keysOK (bodyOf Try.f44) = true := by kernel_rfl
def spec_l8Refuted_n3_st5 (next10 : List Int) (all12 : List (List Int)) (i9 : Int) : St := ⟨expand 34 0 [1, 2, 4, 6, 7] [(.int .i64 (3 : Int)), (.ptr 0 0 0 16), (.ptr 1 0 0 3), (.sl 2 0 (List.length all12)), (.int .i64 i9)], [(.var 16 (.ri .i64 next10)), (.var 3 (.ri .i64 [(0 : Int), (0 : Int), (0 : Int)])), (.vec 40 (.rr 3 all12))], 0, []⟩
def spec_l8Refuted_n3_o5 (next10 : List Int) (all12 : List (List Int)) (x : Bool × List Int) : GT := (.br x.1 (.out (.ret ⟨expand 34 0 [4, 5] [(.ptr 0 0 0 3), (.bool true)], [(.var 3 (.ri .i64 x.2))], 0, []⟩)) (.out (.exit 0 ⟨expand 34 0 [4] [(.ptr 0 0 0 3)], [(.var 3 (.ri .i64 [(0 : Int), (0 : Int), (0 : Int)]))], 0, []⟩)))
def spec_l8Refuted_n3_ls5 (F : Nat) : LoopS := ⟨34, [1, 2, 4, 6, 7], [], [4], [], [4, 5], [], [], fun vals mem np killed => match vals, mem, np, killed with
  | [(.int .i64 q_n0), (.ptr 0 0 0 16), (.ptr 1 0 0 3), (.sl 2 0 q_all8), (.int .i64 i9)], [(.var 16 (.ri .i64 next10)), (.var 3 (.ri .i64 q_t411)), (.vec 40 (.rr 3 all12))], 0, [] => .br ((q_n0 == (3 : Int)) && ((q_t411 == ([(0 : Int), (0 : Int), (0 : Int)] : List Int)) && ((Nat.beq q_all8 (List.length all12)) && (spec_l8Refuted_n3_l5 F next10 all12 i9).isSome))) (spec_l8Refuted_n3_o5 next10 all12 ((spec_l8Refuted_n3_l5 F next10 all12 i9).getD default)) .fail
  | _, _, _, _ => .fail⟩
theorem spec_l8Refuted_n3_step5 (F : Nat) (next10 : List Int) (all12 : List (List Int)) (i9 : Int) {R : Type} (k : Out → Option R) : stepS tt (spec_l8Refuted_n3_tab F) (spec_l8Refuted_n3_LS0 F) 70 (spec_l8Refuted_n3_ls5 F) (loopAt 5 (bodyOf Try.f44)) (spec_l8Refuted_n3_st5 next10 all12 i9) k = spec_l8Refuted_n3_s5 F next10 all12 R i9 (fun s => k (.norm (spec_l8Refuted_n3_st5 next10 all12 s))) (fun x => (spec_l8Refuted_n3_o5 next10 all12 x).run k) := by kernel_rfl
theorem spec_l8Refuted_n3_iter5 (F : Nat) (next10 : List Int) (all12 : List (List Int)) {R : Type} (k : Out → Option R) : ∀ (n : Nat) (i9 : Int), iterS tt (spec_l8Refuted_n3_tab F) (spec_l8Refuted_n3_LS0 F) 70 (spec_l8Refuted_n3_ls5 F) (loopAt 5 (bodyOf Try.f44)) n (spec_l8Refuted_n3_st5 next10 all12 i9) k = loopC (spec_l8Refuted_n3_s5 F next10 all12) n i9 (fun x => (spec_l8Refuted_n3_o5 next10 all12 x).run k)
  | 0, i9 => rfl
  | n + 1, i9 => (iterS_succ tt (spec_l8Refuted_n3_tab F) (spec_l8Refuted_n3_LS0 F) 70 (spec_l8Refuted_n3_ls5 F) (loopAt 5 (bodyOf Try.f44)) n (spec_l8Refuted_n3_st5 next10 all12 i9) k).trans ((spec_l8Refuted_n3_step5 F next10 all12 i9 (nextK (iterS tt (spec_l8Refuted_n3_tab F) (spec_l8Refuted_n3_LS0 F) 70 (spec_l8Refuted_n3_ls5 F) (loopAt 5 (bodyOf Try.f44)) n) k)).trans (congrArg (fun kn => spec_l8Refuted_n3_s5 F next10 all12 R i9 kn _) (funext (fun i9 => spec_l8Refuted_n3_iter5 F next10 all12 k n i9))))
theorem spec_l8Refuted_n3_lok5 (F : Nat) : LoopOK Try.prog (loopAt 5 (bodyOf Try.f44)) (spec_l8Refuted_n3_ls5 F) := by
  refine loopOK_of mixed ttok deep (spec_l8Refuted_n3_tabok F) (loopsOK_at (spec_l8Refuted_n3_lsok0 F) 5) (fuel := 70) fun R vals mem np killed k x h => ?_
  simp only [spec_l8Refuted_n3_ls5] at h
  split at h
  · rename_i q_n0 q_all8 i9 next10 q_t411 all12
    simp only [GT.run] at h
    have hc := (cond_noneL h).1
    replace h := (cond_noneL h).2
    have hg := (and_split hc).1
    replace hc := (and_split hc).2
    obtain rfl := beq_int hg
    have hg := (and_split hc).1
    replace hc := (and_split hc).2
    obtain rfl := beq_li hg
    have hg := (and_split hc).1
    replace hc := (and_split hc).2
    obtain rfl := nbeq_nat hg
    refine ⟨F, (spec_l8Refuted_n3_iter5 F next10 all12 k F i9).trans ((loopC_use (spec_l8Refuted_n3_s5_nat F next10 all12) hc _).trans h)⟩
  · simp only [GT.run] at h
    cases h
noncomputable def spec_l8Refuted_n3_LS1 (F : Nat) : LT := (5, spec_l8Refuted_n3_ls5 F) :: spec_l8Refuted_n3_LS0 F
theorem spec_l8Refuted_n3_lsok1 (F : Nat) : LoopsOK Try.prog (spec_l8Refuted_n3_LS1 F) (bodyOf Try.f44) := loopsOK_cons spec_l8Refuted_n3_keys (spec_l8Refuted_n3_lok5 F) (spec_l8Refuted_n3_lsok0 F)
theorem spec_l8Refuted_n3_run (F : Nat) (next0 : List Int) : runS tt (spec_l8Refuted_n3_tab F) (spec_l8Refuted_n3_LS1 F) [] [] Try.f44 (bodyOf Try.f44) 70 [(.ints 16 next0), (.int .i64 (3 : Int))] [] = spec_l8Refuted_n3_c _ F next0 (fun r => some ⟨(.tup [(.ints 3 r.1), (.bool r.2)]), [], []⟩) := by kernel_rfl
def spec_l8Refuted_n3_ent (F : Nat) : Ent := ⟨[], .quiet, fun args mem => match args, mem with
  | [(.ints 16 next0), (.int .i64 q_n1)], [] => bif (q_n1 == (3 : Int)) then some ((spec_l8Refuted_n3_p F next0).isSome, ⟨(.tup [(.ints 3 ((spec_l8Refuted_n3_p F next0).getD default).1), (.bool ((spec_l8Refuted_n3_p F next0).getD default).2)]), [], []⟩) else none
  | _, _ => none⟩
theorem spec_l8Refuted_n3_fok : FunOK Try.prog 44 := funOK Try.func44 (by kernel_rfl) rfl
theorem spec_l8Refuted_n3_meets (F : Nat) : Meets Try.prog 44 (spec_l8Refuted_n3_ent F) := by
  refine meets_of_runS mixed ttok deep (spec_l8Refuted_n3_tabok F) Try.func44 (body_some rfl) (spec_l8Refuted_n3_lsok1 F) fun args mem hfit ret h => ?_
  clear hfit
  simp only [spec_l8Refuted_n3_ent] at h
  split at h
  · rename_i next0 q_n1
    have hg0 := (cond_noneL h).1
    replace h := (cond_noneL h).2
    obtain rfl := beq_int hg0
    simp only [Option.some.injEq, Prod.mk.injEq] at h
    obtain ⟨hc, rfl⟩ := h
    exact ⟨[], [], 70, _, (spec_l8Refuted_n3_run F next0).trans ((spec_l8Refuted_n3_cp _ F next0 _).trans (bind_use hc _)), rfl, rfl, rfl⟩
  · cases h

/-! loop.example/g01194/spec.l8Safe -/
noncomputable def spec_l8Safe_n3_tab (F : Nat) : Tab := [(43, (spec_l2Slide_ent F)), (44, (spec_l8Refuted_n3_ent F))]
theorem spec_l8Safe_n3_tabok (F : Nat) : TabOK Try.prog (spec_l8Safe_n3_tab F) := (tab_cons (spec_l2Slide_meets F) spec_l2Slide_fok (tab_cons (spec_l8Refuted_n3_meets F) spec_l8Refuted_n3_fok tab_nil))
noncomputable def spec_l8Safe_n3_LS0 (F : Nat) : LT := []
theorem spec_l8Safe_n3_lsok0 (F : Nat) : LoopsOK Try.prog (spec_l8Safe_n3_LS0 F) (bodyOf Try.f37) := loopsOK_nil
theorem spec_l8Safe_n3_run (F : Nat) (b0 : List Int) (d1 : Int) : runS tt (spec_l8Safe_n3_tab F) (spec_l8Safe_n3_LS0 F) [] [] Try.f37 (bodyOf Try.f37) 70 [(.ints 16 b0), (.int .i64 d1), (.int .i64 (3 : Int))] [] = spec_l8Safe_n3_c _ F b0 d1 (fun r => some ⟨(.bool r), [], []⟩) := by kernel_rfl
def spec_l8Safe_n3_ent (F : Nat) : Ent := ⟨[], .quiet, fun args mem => match args, mem with
  | [(.ints 16 b0), (.int .i64 d1), (.int .i64 q_n2)], [] => bif (q_n2 == (3 : Int)) then some ((spec_l8Safe_n3_p F b0 d1).isSome, ⟨(.bool ((spec_l8Safe_n3_p F b0 d1).getD default)), [], []⟩) else none
  | _, _ => none⟩
theorem spec_l8Safe_n3_fok : FunOK Try.prog 37 := funOK Try.func37 (by kernel_rfl) rfl
theorem spec_l8Safe_n3_meets (F : Nat) : Meets Try.prog 37 (spec_l8Safe_n3_ent F) := by
  refine meets_of_runS mixed ttok deep (spec_l8Safe_n3_tabok F) Try.func37 (body_some rfl) (spec_l8Safe_n3_lsok0 F) fun args mem hfit ret h => ?_
  clear hfit
  simp only [spec_l8Safe_n3_ent] at h
  split at h
  · rename_i b0 d1 q_n2
    have hg0 := (cond_noneL h).1
    replace h := (cond_noneL h).2
    obtain rfl := beq_int hg0
    simp only [Option.some.injEq, Prod.mk.injEq] at h
    obtain ⟨hc, rfl⟩ := h
    exact ⟨[], [], 70, _, (spec_l8Safe_n3_run F b0 d1).trans ((spec_l8Safe_n3_cp _ F b0 d1 _).trans (bind_use hc _)), rfl, rfl, rfl⟩
  · cases h
end Go.Proofs.Ytgdokdkcbgkekaf
