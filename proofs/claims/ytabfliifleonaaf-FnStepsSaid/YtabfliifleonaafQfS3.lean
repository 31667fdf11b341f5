/-
Pure functions and what the code of them does, by program; without conditions.
-/
import Derived.Test.YtabfliifleonaafQfP3
import Derived.Test.YtabfliifleonaafQfS2
namespace Go.Proofs.Ytabfliifleonaaf
open Go Go.Lv Go.Lv.P Go.Proofs
set_option linter.unusedVariables false
set_option linter.unusedSimpArgs false
set_option maxRecDepth 100000
/-! loop.example/g01194/spec.l2Row -/
noncomputable def spec_l2Row_tab (F : Nat) : Tab := [(85, (spec_l2Worth_ent F))]
theorem spec_l2Row_tabok (F : Nat) : TabOK Try.prog (spec_l2Row_tab F) := (tab_cons (spec_l2Worth_meets F) spec_l2Worth_fok tab_nil)
noncomputable def spec_l2Row_LS0 (F : Nat) : LT := []
theorem spec_l2Row_lsok0 (F : Nat) : LoopsOK Try.prog (spec_l2Row_LS0 F) (bodyOf Try.f76) := loopsOK_nil
theorem spec_l2Row_keys : keysOK (bodyOf Try.f76) = true := by kernel_rfl
def spec_l2Row_st3 (row13 : List Int) (n9 : Int) (score10 : Int) (merged11 : Bool) (k12 : Int) (out15 : List Int) : St := ⟨expand 63 0 [1, 2, 4, 5, 6, 7, 8] [(.ptr 0 0 0 4), (.ptr 1 0 0 4), (.ptr 2 0 0 4), (.int .i64 n9), (.int .i64 score10), (.bool merged11), (.int .i64 k12)], [(.var 4 (.ri .i64 row13)), (.var 4 (.ri .i64 [(0 : Int), (0 : Int), (0 : Int), (0 : Int)])), (.var 4 (.ri .i64 out15))], 0, []⟩
def spec_l2Row_o3 (row13 : List Int) (x : Int × List Int) : GT := (.out (.exit 0 ⟨expand 63 0 [2, 4, 6] [(.ptr 0 0 0 4), (.ptr 1 0 0 4), (.int .i64 x.1)], [(.var 4 (.ri .i64 [(0 : Int), (0 : Int), (0 : Int), (0 : Int)])), (.var 4 (.ri .i64 x.2))], 0, []⟩))
def spec_l2Row_ls3 (F : Nat) : LoopS := ⟨63, [1, 2, 4, 5, 6, 7, 8], [], [2, 4, 6], [], [2, 3], [], [], fun vals mem np killed => match vals, mem, np, killed with
  | [(.ptr 0 0 0 4), (.ptr 1 0 0 4), (.ptr 2 0 0 4), (.int .i64 n9), (.int .i64 score10), (.bool merged11), (.int .i64 k12)], [(.var 4 (.ri .i64 row13)), (.var 4 (.ri .i64 q_t214)), (.var 4 (.ri .i64 out15))], 0, [] => .br ((q_t214 == ([(0 : Int), (0 : Int), (0 : Int), (0 : Int)] : List Int)) && (spec_l2Row_l3 F row13 n9 score10 merged11 k12 out15).isSome) (spec_l2Row_o3 row13 ((spec_l2Row_l3 F row13 n9 score10 merged11 k12 out15).getD default)) .fail
  | _, _, _, _ => .fail⟩
theorem spec_l2Row_step3 (F : Nat) (row13 : List Int) (n9 : Int) (score10 : Int) (merged11 : Bool) (k12 : Int) (out15 : List Int) {R : Type} (k : Out → Option R) : stepS tt (spec_l2Row_tab F) (spec_l2Row_LS0 F) 70 (spec_l2Row_ls3 F) (loopAt 3 (bodyOf Try.f76)) (spec_l2Row_st3 row13 n9 score10 merged11 k12 out15) k = spec_l2Row_s3 F row13 R (n9, score10, merged11, k12, out15) (fun s => k (.norm (spec_l2Row_st3 row13 s.1 s.2.1 s.2.2.1 s.2.2.2.1 s.2.2.2.2))) (fun x => (spec_l2Row_o3 row13 x).run k) := by kernel_rfl
theorem spec_l2Row_iter3 (F : Nat) (row13 : List Int) {R : Type} (k : Out → Option R) : ∀ (n : Nat) (n9 : Int) (score10 : Int) (merged11 : Bool) (k12 : Int) (out15 : List Int), iterS tt (spec_l2Row_tab F) (spec_l2Row_LS0 F) 70 (spec_l2Row_ls3 F) (loopAt 3 (bodyOf Try.f76)) n (spec_l2Row_st3 row13 n9 score10 merged11 k12 out15) k = loopC (spec_l2Row_s3 F row13) n (n9, score10, merged11, k12, out15) (fun x => (spec_l2Row_o3 row13 x).run k)
  | 0, n9, score10, merged11, k12, out15 => rfl
  | n + 1, n9, score10, merged11, k12, out15 => (iterS_succ tt (spec_l2Row_tab F) (spec_l2Row_LS0 F) 70 (spec_l2Row_ls3 F) (loopAt 3 (bodyOf Try.f76)) n (spec_l2Row_st3 row13 n9 score10 merged11 k12 out15) k).trans ((spec_l2Row_step3 F row13 n9 score10 merged11 k12 out15 (nextK (iterS tt (spec_l2Row_tab F) (spec_l2Row_LS0 F) 70 (spec_l2Row_ls3 F) (loopAt 3 (bodyOf Try.f76)) n) k)).trans (congrArg (fun kn => spec_l2Row_s3 F row13 R (n9, score10, merged11, k12, out15) kn _) (funext (fun ⟨n9, score10, merged11, k12, out15⟩ => spec_l2Row_iter3 F row13 k n n9 score10 merged11 k12 out15))))
theorem spec_l2Row_lok3 (F : Nat) : LoopOK Try.prog (loopAt 3 (bodyOf Try.f76)) (spec_l2Row_ls3 F) := by
  refine loopOK_of mixed ttok deep (spec_l2Row_tabok F) (loopsOK_at (spec_l2Row_lsok0 F) 3) (fuel := 70) fun R vals mem np killed k x h => ?_
  simp only [spec_l2Row_ls3] at h
  split at h
  · rename_i n9 score10 merged11 k12 row13 q_t214 out15
    simp only [GT.run] at h
    have hc := (cond_noneL h).1
    replace h := (cond_noneL h).2
    have hg := (and_split hc).1
    replace hc := (and_split hc).2
    obtain rfl := beq_li hg
    refine ⟨F, (spec_l2Row_iter3 F row13 k F n9 score10 merged11 k12 out15).trans ((loopC_use (spec_l2Row_s3_nat F row13) hc _).trans h)⟩
  · simp only [GT.run] at h
    cases h
noncomputable def spec_l2Row_LS1 (F : Nat) : LT := (3, spec_l2Row_ls3 F) :: spec_l2Row_LS0 F
theorem spec_l2Row_lsok1 (F : Nat) : LoopsOK Try.prog (spec_l2Row_LS1 F) (bodyOf Try.f76) := loopsOK_cons spec_l2Row_keys (spec_l2Row_lok3 F) (spec_l2Row_lsok0 F)
theorem spec_l2Row_run (F : Nat) (row0 : List Int) : runS tt (spec_l2Row_tab F) (spec_l2Row_LS1 F) [] [] Try.f76 (bodyOf Try.f76) 70 [(.ints 4 row0)] [] = spec_l2Row_c _ F row0 (fun r => some ⟨(.tup [(.ints 4 r.1), (.int .i64 r.2)]), [], []⟩) := by kernel_rfl
def spec_l2Row_ent (F : Nat) : Ent := ⟨[], .quiet, fun args mem => match args, mem with
  | [(.ints 4 row0)], [] => some ((spec_l2Row_p F row0).isSome, ⟨(.tup [(.ints 4 ((spec_l2Row_p F row0).getD default).1), (.int .i64 ((spec_l2Row_p F row0).getD default).2)]), [], []⟩)
  | _, _ => none⟩
theorem spec_l2Row_fok : FunOK Try.prog 76 := funOK Try.func76 (by kernel_rfl) rfl
theorem spec_l2Row_meets (F : Nat) : Meets Try.prog 76 (spec_l2Row_ent F) := by
  refine meets_of_runS mixed ttok deep (spec_l2Row_tabok F) Try.func76 (body_some rfl) (spec_l2Row_lsok1 F) fun args mem hfit ret h => ?_
  clear hfit
  simp only [spec_l2Row_ent] at h
  split at h
  · rename_i row0
    simp only [Option.some.injEq, Prod.mk.injEq] at h
    obtain ⟨hc, rfl⟩ := h
    exact ⟨[], [], 70, _, (spec_l2Row_run F row0).trans ((spec_l2Row_cp _ F row0 _).trans (bind_use hc _)), rfl, rfl, rfl⟩
  · cases h

/-! loop.example/g01194/spec.l2Slide -/
noncomputable def spec_l2Slide_tab (F : Nat) : Tab := [(77, (spec_l2Numbers_ent F)), (76, (spec_l2Row_ent F)), (78, (spec_l2Line_ent F)), (47, (spec_l2Put_ent F))]
theorem spec_l2Slide_tabok (F : Nat) : TabOK Try.prog (spec_l2Slide_tab F) := (tab_cons (spec_l2Numbers_meets F) spec_l2Numbers_fok (tab_cons (spec_l2Row_meets F) spec_l2Row_fok (tab_cons (spec_l2Line_meets F) spec_l2Line_fok (tab_cons (spec_l2Put_meets F) spec_l2Put_fok tab_nil))))
noncomputable def spec_l2Slide_LS0 (F : Nat) : LT := []
theorem spec_l2Slide_lsok0 (F : Nat) : LoopsOK Try.prog (spec_l2Slide_LS0 F) (bodyOf Try.f55) := loopsOK_nil
theorem spec_l2Slide_keys : keysOK (bodyOf Try.f55) = true := by kernel_rfl
def spec_l2Slide_st3 (d0 : Int) (b12 : List Int) (sum10 : Int) (i11 : Int) (out14 : List Int) : St := ⟨expand 46 0 [1, 2, 4, 6, 7, 8] [(.int .i64 d0), (.ptr 0 0 0 16), (.ptr 1 0 0 16), (.ptr 2 0 0 16), (.int .i64 sum10), (.int .i64 i11)], [(.var 16 (.ri .i64 b12)), (.var 16 (.ri .i64 [(0 : Int), (0 : Int), (0 : Int), (0 : Int), (0 : Int), (0 : Int), (0 : Int), (0 : Int), (0 : Int), (0 : Int), (0 : Int), (0 : Int), (0 : Int), (0 : Int), (0 : Int), (0 : Int)])), (.var 16 (.ri .i64 out14))], 0, []⟩
def spec_l2Slide_o3 (d0 : Int) (b12 : List Int) (x : Int × List Int) : GT := (.out (.exit 0 ⟨expand 46 0 [4, 6, 7] [(.ptr 0 0 0 16), (.ptr 1 0 0 16), (.int .i64 x.1)], [(.var 16 (.ri .i64 [(0 : Int), (0 : Int), (0 : Int), (0 : Int), (0 : Int), (0 : Int), (0 : Int), (0 : Int), (0 : Int), (0 : Int), (0 : Int), (0 : Int), (0 : Int), (0 : Int), (0 : Int), (0 : Int)])), (.var 16 (.ri .i64 x.2))], 0, []⟩))
def spec_l2Slide_ls3 (F : Nat) : LoopS := ⟨46, [1, 2, 4, 6, 7, 8], [], [4, 6, 7], [], [4, 5], [], [], fun vals mem np killed => match vals, mem, np, killed with
  | [(.int .i64 d0), (.ptr 0 0 0 16), (.ptr 1 0 0 16), (.ptr 2 0 0 16), (.int .i64 sum10), (.int .i64 i11)], [(.var 16 (.ri .i64 b12)), (.var 16 (.ri .i64 q_t413)), (.var 16 (.ri .i64 out14))], 0, [] => .br ((q_t413 == ([(0 : Int), (0 : Int), (0 : Int), (0 : Int), (0 : Int), (0 : Int), (0 : Int), (0 : Int), (0 : Int), (0 : Int), (0 : Int), (0 : Int), (0 : Int), (0 : Int), (0 : Int), (0 : Int)] : List Int)) && (spec_l2Slide_l3 F d0 b12 sum10 i11 out14).isSome) (spec_l2Slide_o3 d0 b12 ((spec_l2Slide_l3 F d0 b12 sum10 i11 out14).getD default)) .fail
  | _, _, _, _ => .fail⟩
theorem spec_l2Slide_step3 (F : Nat) (d0 : Int) (b12 : List Int) (sum10 : Int) (i11 : Int) (out14 : List Int) {R : Type} (k : Out → Option R) : stepS tt (spec_l2Slide_tab F) (spec_l2Slide_LS0 F) 70 (spec_l2Slide_ls3 F) (loopAt 3 (bodyOf Try.f55)) (spec_l2Slide_st3 d0 b12 sum10 i11 out14) k = spec_l2Slide_s3 F d0 b12 R (sum10, i11, out14) (fun s => k (.norm (spec_l2Slide_st3 d0 b12 s.1 s.2.1 s.2.2))) (fun x => (spec_l2Slide_o3 d0 b12 x).run k) := by kernel_rfl
theorem spec_l2Slide_iter3 (F : Nat) (d0 : Int) (b12 : List Int) {R : Type} (k : Out → Option R) : ∀ (n : Nat) (sum10 : Int) (i11 : Int) (out14 : List Int), iterS tt (spec_l2Slide_tab F) (spec_l2Slide_LS0 F) 70 (spec_l2Slide_ls3 F) (loopAt 3 (bodyOf Try.f55)) n (spec_l2Slide_st3 d0 b12 sum10 i11 out14) k = loopC (spec_l2Slide_s3 F d0 b12) n (sum10, i11, out14) (fun x => (spec_l2Slide_o3 d0 b12 x).run k)
  | 0, sum10, i11, out14 => rfl
  | n + 1, sum10, i11, out14 => (iterS_succ tt (spec_l2Slide_tab F) (spec_l2Slide_LS0 F) 70 (spec_l2Slide_ls3 F) (loopAt 3 (bodyOf Try.f55)) n (spec_l2Slide_st3 d0 b12 sum10 i11 out14) k).trans ((spec_l2Slide_step3 F d0 b12 sum10 i11 out14 (nextK (iterS tt (spec_l2Slide_tab F) (spec_l2Slide_LS0 F) 70 (spec_l2Slide_ls3 F) (loopAt 3 (bodyOf Try.f55)) n) k)).trans (congrArg (fun kn => spec_l2Slide_s3 F d0 b12 R (sum10, i11, out14) kn _) (funext (fun ⟨sum10, i11, out14⟩ => spec_l2Slide_iter3 F d0 b12 k n sum10 i11 out14))))
theorem spec_l2Slide_lok3 (F : Nat) : LoopOK Try.prog (loopAt 3 (bodyOf Try.f55)) (spec_l2Slide_ls3 F) := by
  refine loopOK_of mixed ttok deep (spec_l2Slide_tabok F) (loopsOK_at (spec_l2Slide_lsok0 F) 3) (fuel := 70) fun R vals mem np killed k x h => ?_
  simp only [spec_l2Slide_ls3] at h
  split at h
  · rename_i d0 sum10 i11 b12 q_t413 out14
    simp only [GT.run] at h
    have hc := (cond_noneL h).1
    replace h := (cond_noneL h).2
    have hg := (and_split hc).1
    replace hc := (and_split hc).2
    obtain rfl := beq_li hg
    refine ⟨F, (spec_l2Slide_iter3 F d0 b12 k F sum10 i11 out14).trans ((loopC_use (spec_l2Slide_s3_nat F d0 b12) hc _).trans h)⟩
  · simp only [GT.run] at h
    cases h
noncomputable def spec_l2Slide_LS1 (F : Nat) : LT := (3, spec_l2Slide_ls3 F) :: spec_l2Slide_LS0 F
theorem spec_l2Slide_lsok1 (F : Nat) : LoopsOK Try.prog (spec_l2Slide_LS1 F) (bodyOf Try.f55) := loopsOK_cons spec_l2Slide_keys (spec_l2Slide_lok3 F) (spec_l2Slide_lsok0 F)
theorem spec_l2Slide_run (F : Nat) (b0 : List Int) (d1 : Int) : runS tt (spec_l2Slide_tab F) (spec_l2Slide_LS1 F) [] [] Try.f55 (bodyOf Try.f55) 70 [(.ints 16 b0), (.int .i64 d1)] [] = spec_l2Slide_c _ F b0 d1 (fun r => some ⟨(.tup [(.ints 16 r.1), (.int .i64 r.2)]), [], []⟩) := by kernel_rfl
def spec_l2Slide_ent (F : Nat) : Ent := ⟨[], .quiet, fun args mem => match args, mem with
  | [(.ints 16 b0), (.int .i64 d1)], [] => some ((spec_l2Slide_p F b0 d1).isSome, ⟨(.tup [(.ints 16 ((spec_l2Slide_p F b0 d1).getD default).1), (.int .i64 ((spec_l2Slide_p F b0 d1).getD default).2)]), [], []⟩)
  | _, _ => none⟩
theorem spec_l2Slide_fok : FunOK Try.prog 55 := funOK Try.func55 (by kernel_rfl) rfl
theorem spec_l2Slide_meets (F : Nat) : Meets Try.prog 55 (spec_l2Slide_ent F) := by
  refine meets_of_runS mixed ttok deep (spec_l2Slide_tabok F) Try.func55 (body_some rfl) (spec_l2Slide_lsok1 F) fun args mem hfit ret h => ?_
  clear hfit
  simp only [spec_l2Slide_ent] at h
  split at h
  · rename_i b0 d1
    simp only [Option.some.injEq, Prod.mk.injEq] at h
    obtain ⟨hc, rfl⟩ := h
    exact ⟨[], [], 70, _, (spec_l2Slide_run F b0 d1).trans ((spec_l2Slide_cp _ F b0 d1 _).trans (bind_use hc _)), rfl, rfl, rfl⟩
  · cases h

/-! loop.example/g01194/spec.l2Empty -/
noncomputable def spec_l2Empty_tab (F : Nat) : Tab := []
theorem spec_l2Empty_tabok (F : Nat) : TabOK Try.prog (spec_l2Empty_tab F) := tab_nil
noncomputable def spec_l2Empty_LS0 (F : Nat) : LT := []
theorem spec_l2Empty_lsok0 (F : Nat) : LoopsOK Try.prog (spec_l2Empty_LS0 F) (bodyOf Try.f56) := loopsOK_nil
theorem spec_l2Empty_keys : keysOK (bodyOf Try.f56) = true := by kernel_rfl
def spec_l2Empty_st6 (r5 : Int) (b7 : List Int) (c6 : Int) (out8 : List (List Int)) : St := ⟨expand 29 0 [1, 3, 4, 5] [(.ptr 0 0 0 16), (.sl 1 0 (List.length out8)), (.int .i64 r5), (.int .i64 c6)], [(.var 16 (.ri .i64 b7)), (.vec 33 (.rr 2 out8))], 0, []⟩
def spec_l2Empty_o6 (r5 : Int) (b7 : List Int) (x : List (List Int)) : GT := (.out (.exit 2 ⟨expand 29 0 [1, 3, 4] [(.ptr 0 0 0 16), (.sl 1 0 (List.length x)), (.int .i64 r5)], [(.var 16 (.ri .i64 b7)), (.vec 33 (.rr 2 x))], 0, []⟩))
def spec_l2Empty_ls6 (F : Nat) : LoopS := ⟨29, [1, 3, 4, 5], [], [1, 3, 4], [], [2], [], [], fun vals mem np killed => match vals, mem, np, killed with
  | [(.ptr 0 0 0 16), (.sl 1 0 q_out4), (.int .i64 r5), (.int .i64 c6)], [(.var 16 (.ri .i64 b7)), (.vec 33 (.rr 2 out8))], 0, [] => .br ((Nat.beq q_out4 (List.length out8)) && (spec_l2Empty_l6 F r5 b7 c6 out8).isSome) (spec_l2Empty_o6 r5 b7 ((spec_l2Empty_l6 F r5 b7 c6 out8).getD default)) .fail
  | _, _, _, _ => .fail⟩
theorem spec_l2Empty_step6 (F : Nat) (r5 : Int) (b7 : List Int) (c6 : Int) (out8 : List (List Int)) {R : Type} (k : Out → Option R) : stepS tt (spec_l2Empty_tab F) (spec_l2Empty_LS0 F) 70 (spec_l2Empty_ls6 F) (loopAt 6 (bodyOf Try.f56)) (spec_l2Empty_st6 r5 b7 c6 out8) k = spec_l2Empty_s6 F r5 b7 R (c6, out8) (fun s => k (.norm (spec_l2Empty_st6 r5 b7 s.1 s.2))) (fun x => (spec_l2Empty_o6 r5 b7 x).run k) := by kernel_rfl
theorem spec_l2Empty_iter6 (F : Nat) (r5 : Int) (b7 : List Int) {R : Type} (k : Out → Option R) : ∀ (n : Nat) (c6 : Int) (out8 : List (List Int)), iterS tt (spec_l2Empty_tab F) (spec_l2Empty_LS0 F) 70 (spec_l2Empty_ls6 F) (loopAt 6 (bodyOf Try.f56)) n (spec_l2Empty_st6 r5 b7 c6 out8) k = loopC (spec_l2Empty_s6 F r5 b7) n (c6, out8) (fun x => (spec_l2Empty_o6 r5 b7 x).run k)
  | 0, c6, out8 => rfl
  | n + 1, c6, out8 => (iterS_succ tt (spec_l2Empty_tab F) (spec_l2Empty_LS0 F) 70 (spec_l2Empty_ls6 F) (loopAt 6 (bodyOf Try.f56)) n (spec_l2Empty_st6 r5 b7 c6 out8) k).trans ((spec_l2Empty_step6 F r5 b7 c6 out8 (nextK (iterS tt (spec_l2Empty_tab F) (spec_l2Empty_LS0 F) 70 (spec_l2Empty_ls6 F) (loopAt 6 (bodyOf Try.f56)) n) k)).trans (congrArg (fun kn => spec_l2Empty_s6 F r5 b7 R (c6, out8) kn _) (funext (fun ⟨c6, out8⟩ => spec_l2Empty_iter6 F r5 b7 k n c6 out8))))
theorem spec_l2Empty_lok6 (F : Nat) : LoopOK Try.prog (loopAt 6 (bodyOf Try.f56)) (spec_l2Empty_ls6 F) := by
  refine loopOK_of mixed ttok deep (spec_l2Empty_tabok F) (loopsOK_at (spec_l2Empty_lsok0 F) 6) (fuel := 70) fun R vals mem np killed k x h => ?_
  simp only [spec_l2Empty_ls6] at h
  split at h
  · rename_i q_out4 r5 c6 b7 out8
    simp only [GT.run] at h
    have hc := (cond_noneL h).1
    replace h := (cond_noneL h).2
    have hg := (and_split hc).1
    replace hc := (and_split hc).2
    obtain rfl := nbeq_nat hg
    refine ⟨F, (spec_l2Empty_iter6 F r5 b7 k F c6 out8).trans ((loopC_use (spec_l2Empty_s6_nat F r5 b7) hc _).trans h)⟩
  · simp only [GT.run] at h
    cases h
noncomputable def spec_l2Empty_LS1 (F : Nat) : LT := (6, spec_l2Empty_ls6 F) :: spec_l2Empty_LS0 F
theorem spec_l2Empty_lsok1 (F : Nat) : LoopsOK Try.prog (spec_l2Empty_LS1 F) (bodyOf Try.f56) := loopsOK_cons spec_l2Empty_keys (spec_l2Empty_lok6 F) (spec_l2Empty_lsok0 F)
def spec_l2Empty_st3 (b6 : List Int) (r5 : Int) (out7 : List (List Int)) : St := ⟨expand 29 0 [1, 3, 4] [(.ptr 0 0 0 16), (.sl 1 0 (List.length out7)), (.int .i64 r5)], [(.var 16 (.ri .i64 b6)), (.vec 33 (.rr 2 out7))], 0, []⟩
def spec_l2Empty_o3 (b6 : List Int) (x : List (List Int)) : GT := (.out (.exit 0 ⟨expand 29 0 [3] [(.sl 0 0 (List.length x))], [(.vec 33 (.rr 2 x))], 0, []⟩))
def spec_l2Empty_ls3 (F : Nat) : LoopS := ⟨29, [1, 3, 4], [], [3], [], [2], [], [], fun vals mem np killed => match vals, mem, np, killed with
  | [(.ptr 0 0 0 16), (.sl 1 0 q_out4), (.int .i64 r5)], [(.var 16 (.ri .i64 b6)), (.vec 33 (.rr 2 out7))], 0, [] => .br ((Nat.beq q_out4 (List.length out7)) && (spec_l2Empty_l3 F b6 r5 out7).isSome) (spec_l2Empty_o3 b6 ((spec_l2Empty_l3 F b6 r5 out7).getD default)) .fail
  | _, _, _, _ => .fail⟩
theorem spec_l2Empty_step3 (F : Nat) (b6 : List Int) (r5 : Int) (out7 : List (List Int)) {R : Type} (k : Out → Option R) : stepS tt (spec_l2Empty_tab F) (spec_l2Empty_LS1 F) 70 (spec_l2Empty_ls3 F) (loopAt 3 (bodyOf Try.f56)) (spec_l2Empty_st3 b6 r5 out7) k = spec_l2Empty_s3 F b6 R (r5, out7) (fun s => k (.norm (spec_l2Empty_st3 b6 s.1 s.2))) (fun x => (spec_l2Empty_o3 b6 x).run k) := by kernel_rfl
theorem spec_l2Empty_iter3 (F : Nat) (b6 : List Int) {R : Type} (k : Out → Option R) : ∀ (n : Nat) (r5 : Int) (out7 : List (List Int)), iterS tt (spec_l2Empty_tab F) (spec_l2Empty_LS1 F) 70 (spec_l2Empty_ls3 F) (loopAt 3 (bodyOf Try.f56)) n (spec_l2Empty_st3 b6 r5 out7) k = loopC (spec_l2Empty_s3 F b6) n (r5, out7) (fun x => (spec_l2Empty_o3 b6 x).run k)
  | 0, r5, out7 => rfl
  | n + 1, r5, out7 => (iterS_succ tt (spec_l2Empty_tab F) (spec_l2Empty_LS1 F) 70 (spec_l2Empty_ls3 F) (loopAt 3 (bodyOf Try.f56)) n (spec_l2Empty_st3 b6 r5 out7) k).trans ((spec_l2Empty_step3 F b6 r5 out7 (nextK (iterS tt (spec_l2Empty_tab F) (spec_l2Empty_LS1 F) 70 (spec_l2Empty_ls3 F) (loopAt 3 (bodyOf Try.f56)) n) k)).trans (congrArg (fun kn => spec_l2Empty_s3 F b6 R (r5, out7) kn _) (funext (fun ⟨r5, out7⟩ => spec_l2Empty_iter3 F b6 k n r5 out7))))
theorem spec_l2Empty_lok3 (F : Nat) : LoopOK Try.prog (loopAt 3 (bodyOf Try.f56)) (spec_l2Empty_ls3 F) := by
  refine loopOK_of mixed ttok deep (spec_l2Empty_tabok F) (loopsOK_at (spec_l2Empty_lsok1 F) 3) (fuel := 70) fun R vals mem np killed k x h => ?_
  simp only [spec_l2Empty_ls3] at h
  split at h
  · rename_i q_out4 r5 b6 out7
    simp only [GT.run] at h
    have hc := (cond_noneL h).1
    replace h := (cond_noneL h).2
    have hg := (and_split hc).1
    replace hc := (and_split hc).2
    obtain rfl := nbeq_nat hg
    refine ⟨F, (spec_l2Empty_iter3 F b6 k F r5 out7).trans ((loopC_use (spec_l2Empty_s3_nat F b6) hc _).trans h)⟩
  · simp only [GT.run] at h
    cases h
noncomputable def spec_l2Empty_LS2 (F : Nat) : LT := (3, spec_l2Empty_ls3 F) :: spec_l2Empty_LS1 F
theorem spec_l2Empty_lsok2 (F : Nat) : LoopsOK Try.prog (spec_l2Empty_LS2 F) (bodyOf Try.f56) := loopsOK_cons spec_l2Empty_keys (spec_l2Empty_lok3 F) (spec_l2Empty_lsok1 F)
theorem spec_l2Empty_run (F : Nat) (b0 : List Int) : runS tt (spec_l2Empty_tab F) (spec_l2Empty_LS2 F) [] [] Try.f56 (bodyOf Try.f56) 70 [(.ints 16 b0)] [] = spec_l2Empty_c _ F b0 (fun r => some ⟨(.sl 0 0 (List.length r)), [(.vec 33 (.rr 2 r))], []⟩) := by kernel_rfl
def spec_l2Empty_ent (F : Nat) : Ent := ⟨[], .fresh, fun args mem => match args, mem with
  | [(.ints 16 b0)], [] => some ((spec_l2Empty_p F b0).isSome, ⟨(.sl 0 0 (List.length ((spec_l2Empty_p F b0).getD default))), [(.vec 33 (.rr 2 ((spec_l2Empty_p F b0).getD default)))], []⟩)
  | _, _ => none⟩
theorem spec_l2Empty_fok : FunOK Try.prog 56 := funOK Try.func56 (by kernel_rfl) rfl
theorem spec_l2Empty_meets (F : Nat) : Meets Try.prog 56 (spec_l2Empty_ent F) := by
  refine meets_of_runS mixed ttok deep (spec_l2Empty_tabok F) Try.func56 (body_some rfl) (spec_l2Empty_lsok2 F) fun args mem hfit ret h => ?_
  clear hfit
  simp only [spec_l2Empty_ent] at h
  split at h
  · rename_i b0
    simp only [Option.some.injEq, Prod.mk.injEq] at h
    obtain ⟨hc, rfl⟩ := h
    exact ⟨[], [], 70, _, (spec_l2Empty_run F b0).trans ((spec_l2Empty_cp _ F b0 _).trans (bind_use hc _)), rfl, rfl, rfl⟩
  · cases h

/-! loop.example/g01194/spec.l5Steps -/
noncomputable def spec_l5Steps_tab (F : Nat) : Tab := [(55, (spec_l2Slide_ent F)), (56, (spec_l2Empty_ent F))]
theorem spec_l5Steps_tabok (F : Nat) : TabOK Try.prog (spec_l5Steps_tab F) := (tab_cons (spec_l2Slide_meets F) spec_l2Slide_fok (tab_cons (spec_l2Empty_meets F) spec_l2Empty_fok tab_nil))
noncomputable def spec_l5Steps_LS0 (F : Nat) : LT := []
theorem spec_l5Steps_lsok0 (F : Nat) : LoopsOK Try.prog (spec_l5Steps_LS0 F) (bodyOf Try.f29) := loopsOK_nil
theorem spec_l5Steps_keys : keysOK (bodyOf Try.f29) = true := by kernel_rfl
def spec_l5Steps_st7 (d0 : Int) (empty7 : List (List Int)) (i5 : Int) (out6 : List (List Int)) : St := ⟨expand 45 0 [1, 5, 8, 9] [(.int .i64 d0), (.sl 0 0 (List.length out6)), (.sl 1 0 (List.length empty7)), (.int .i64 i5)], [(.vec 35 (.rr 4 out6)), (.vec 33 (.rr 2 empty7))], 0, []⟩
def spec_l5Steps_o7 (d0 : Int) (empty7 : List (List Int)) (x : List (List Int)) : GT := (.out (.exit 0 ⟨expand 45 0 [5] [(.sl 0 0 (List.length x))], [(.vec 35 (.rr 4 x))], 0, []⟩))
def spec_l5Steps_ls7 (F : Nat) : LoopS := ⟨45, [1, 5, 8, 9], [], [5], [], [4], [], [], fun vals mem np killed => match vals, mem, np, killed with
  | [(.int .i64 d0), (.sl 0 0 q_out2), (.sl 1 0 q_empty4), (.int .i64 i5)], [(.vec 35 (.rr 4 out6)), (.vec 33 (.rr 2 empty7))], 0, [] => .br ((Nat.beq q_out2 (List.length out6)) && ((Nat.beq q_empty4 (List.length empty7)) && (spec_l5Steps_l7 F d0 empty7 i5 out6).isSome)) (spec_l5Steps_o7 d0 empty7 ((spec_l5Steps_l7 F d0 empty7 i5 out6).getD default)) .fail
  | _, _, _, _ => .fail⟩
theorem spec_l5Steps_step7 (F : Nat) (d0 : Int) (empty7 : List (List Int)) (i5 : Int) (out6 : List (List Int)) {R : Type} (k : Out → Option R) : stepS tt (spec_l5Steps_tab F) (spec_l5Steps_LS0 F) 70 (spec_l5Steps_ls7 F) (loopAt 7 (bodyOf Try.f29)) (spec_l5Steps_st7 d0 empty7 i5 out6) k = spec_l5Steps_s7 F d0 empty7 R (i5, out6) (fun s => k (.norm (spec_l5Steps_st7 d0 empty7 s.1 s.2))) (fun x => (spec_l5Steps_o7 d0 empty7 x).run k) := by kernel_rfl
theorem spec_l5Steps_iter7 (F : Nat) (d0 : Int) (empty7 : List (List Int)) {R : Type} (k : Out → Option R) : ∀ (n : Nat) (i5 : Int) (out6 : List (List Int)), iterS tt (spec_l5Steps_tab F) (spec_l5Steps_LS0 F) 70 (spec_l5Steps_ls7 F) (loopAt 7 (bodyOf Try.f29)) n (spec_l5Steps_st7 d0 empty7 i5 out6) k = loopC (spec_l5Steps_s7 F d0 empty7) n (i5, out6) (fun x => (spec_l5Steps_o7 d0 empty7 x).run k)
  | 0, i5, out6 => rfl
  | n + 1, i5, out6 => (iterS_succ tt (spec_l5Steps_tab F) (spec_l5Steps_LS0 F) 70 (spec_l5Steps_ls7 F) (loopAt 7 (bodyOf Try.f29)) n (spec_l5Steps_st7 d0 empty7 i5 out6) k).trans ((spec_l5Steps_step7 F d0 empty7 i5 out6 (nextK (iterS tt (spec_l5Steps_tab F) (spec_l5Steps_LS0 F) 70 (spec_l5Steps_ls7 F) (loopAt 7 (bodyOf Try.f29)) n) k)).trans (congrArg (fun kn => spec_l5Steps_s7 F d0 empty7 R (i5, out6) kn _) (funext (fun ⟨i5, out6⟩ => spec_l5Steps_iter7 F d0 empty7 k n i5 out6))))
theorem spec_l5Steps_lok7 (F : Nat) : LoopOK Try.prog (loopAt 7 (bodyOf Try.f29)) (spec_l5Steps_ls7 F) := by
  refine loopOK_of mixed ttok deep (spec_l5Steps_tabok F) (loopsOK_at (spec_l5Steps_lsok0 F) 7) (fuel := 70) fun R vals mem np killed k x h => ?_
  simp only [spec_l5Steps_ls7] at h
  split at h
  · rename_i d0 q_out2 q_empty4 i5 out6 empty7
    simp only [GT.run] at h
    have hc := (cond_noneL h).1
    replace h := (cond_noneL h).2
    have hg := (and_split hc).1
    replace hc := (and_split hc).2
    obtain rfl := nbeq_nat hg
    have hg := (and_split hc).1
    replace hc := (and_split hc).2
    obtain rfl := nbeq_nat hg
    refine ⟨F, (spec_l5Steps_iter7 F d0 empty7 k F i5 out6).trans ((loopC_use (spec_l5Steps_s7_nat F d0 empty7) hc _).trans h)⟩
  · simp only [GT.run] at h
    cases h
noncomputable def spec_l5Steps_LS1 (F : Nat) : LT := (7, spec_l5Steps_ls7 F) :: spec_l5Steps_LS0 F
theorem spec_l5Steps_lsok1 (F : Nat) : LoopsOK Try.prog (spec_l5Steps_LS1 F) (bodyOf Try.f29) := loopsOK_cons spec_l5Steps_keys (spec_l5Steps_lok7 F) (spec_l5Steps_lsok0 F)
theorem spec_l5Steps_run (F : Nat) (b0 : List Int) (d1 : Int) : runS tt (spec_l5Steps_tab F) (spec_l5Steps_LS1 F) [] [] Try.f29 (bodyOf Try.f29) 70 [(.ints 16 b0), (.int .i64 d1)] [] = spec_l5Steps_c _ F b0 d1 (fun r => some ⟨(.sl 0 0 (List.length r)), [(.vec 35 (.rr 4 r))], []⟩) := by kernel_rfl
def spec_l5Steps_ent (F : Nat) : Ent := ⟨[], .fresh, fun args mem => match args, mem with
  | [(.ints 16 b0), (.int .i64 d1)], [] => some ((spec_l5Steps_p F b0 d1).isSome, ⟨(.sl 0 0 (List.length ((spec_l5Steps_p F b0 d1).getD default))), [(.vec 35 (.rr 4 ((spec_l5Steps_p F b0 d1).getD default)))], []⟩)
  | _, _ => none⟩
theorem spec_l5Steps_fok : FunOK Try.prog 29 := funOK Try.func29 (by kernel_rfl) rfl
theorem spec_l5Steps_meets (F : Nat) : Meets Try.prog 29 (spec_l5Steps_ent F) := by
  refine meets_of_runS mixed ttok deep (spec_l5Steps_tabok F) Try.func29 (body_some rfl) (spec_l5Steps_lsok1 F) fun args mem hfit ret h => ?_
  clear hfit
  simp only [spec_l5Steps_ent] at h
  split at h
  · rename_i b0 d1
    simp only [Option.some.injEq, Prod.mk.injEq] at h
    obtain ⟨hc, rfl⟩ := h
    exact ⟨[], [], 70, _, (spec_l5Steps_run F b0 d1).trans ((spec_l5Steps_cp _ F b0 d1 _).trans (bind_use hc _)), rfl, rfl, rfl⟩
  · cases h

/-! loop.example/g01194/spec.StepsOf -/
noncomputable def spec_StepsOf_tab (F : Nat) : Tab := [(27, (spec_l2Board_ent F)), (28, (spec_l2Side_ent F)), (29, (spec_l5Steps_ent F))]
theorem spec_StepsOf_tabok (F : Nat) : TabOK Try.prog (spec_StepsOf_tab F) := (tab_cons (spec_l2Board_meets F) spec_l2Board_fok (tab_cons (spec_l2Side_meets F) spec_l2Side_fok (tab_cons (spec_l5Steps_meets F) spec_l5Steps_fok tab_nil)))
noncomputable def spec_StepsOf_LS0 (F : Nat) : LT := []
theorem spec_StepsOf_lsok0 (F : Nat) : LoopsOK Try.prog (spec_StepsOf_LS0 F) (bodyOf Try.f7) := loopsOK_nil
theorem spec_StepsOf_run (F : Nat) (b0 : List Int) (direction1 : Int) : runS tt (spec_StepsOf_tab F) (spec_StepsOf_LS0 F) [] [] Try.f7 (bodyOf Try.f7) 70 [(.ints 16 b0), (.int .i64 direction1)] [] = spec_StepsOf_c _ F b0 direction1 (fun r => some ⟨(.tup [(.sl 0 0 (List.length r.2)), (.bool r.1)]), [(.vec 35 (.rr 4 r.2))], []⟩) := by kernel_rfl
def spec_StepsOf_ent (F : Nat) : Ent := ⟨[], .fresh, fun args mem => match args, mem with
  | [(.ints 16 b0), (.int .i64 direction1)], [] => some ((spec_StepsOf_p F b0 direction1).isSome, ⟨(.tup [(.sl 0 0 (List.length ((spec_StepsOf_p F b0 direction1).getD default).2)), (.bool ((spec_StepsOf_p F b0 direction1).getD default).1)]), [(.vec 35 (.rr 4 ((spec_StepsOf_p F b0 direction1).getD default).2))], []⟩)
  | _, _ => none⟩
theorem spec_StepsOf_fok : FunOK Try.prog 7 := funOK Try.func7 (by kernel_rfl) rfl
theorem spec_StepsOf_meets (F : Nat) : Meets Try.prog 7 (spec_StepsOf_ent F) := by
  refine meets_of_runS mixed ttok deep (spec_StepsOf_tabok F) Try.func7 (body_some rfl) (spec_StepsOf_lsok0 F) fun args mem hfit ret h => ?_
  clear hfit
  simp only [spec_StepsOf_ent] at h
  split at h
  · rename_i b0 direction1
    simp only [Option.some.injEq, Prod.mk.injEq] at h
    obtain ⟨hc, rfl⟩ := h
    exact ⟨[], [], 70, _, (spec_StepsOf_run F b0 direction1).trans ((spec_StepsOf_cp _ F b0 direction1 _).trans (bind_use hc _)), rfl, rfl, rfl⟩
  · cases h

/-! loop.example/g01194/laws.vCut -/
noncomputable def laws_vCut_tab (F : Nat) : Tab := []
theorem laws_vCut_tabok (F : Nat) : TabOK Try.prog (laws_vCut_tab F) := tab_nil
noncomputable def laws_vCut_LS0 (F : Nat) : LT := []
theorem laws_vCut_lsok0 (F : Nat) : LoopsOK Try.prog (laws_vCut_LS0 F) (bodyOf Try.f9) := loopsOK_nil
theorem laws_vCut_run (F : Nat) (code0 : List Int) (n1 : Int) : runS tt (laws_vCut_tab F) (laws_vCut_LS0 F) [] [] Try.f9 (bodyOf Try.f9) 70 [(.ri .u8 code0), (.int .i64 n1)] [] = laws_vCut_c _ code0 n1 (fun r => some ⟨(.sl 0 0 (List.length r)), [(.vec 5 (.ri .u8 r))], []⟩) := by kernel_rfl
def laws_vCut_ent (F : Nat) : Ent := ⟨[], .fresh, fun args mem => match args, mem with
  | [(.ri .u8 code0), (.int .i64 n1)], [] => some ((laws_vCut_p code0 n1).isSome, ⟨(.sl 0 0 (List.length ((laws_vCut_p code0 n1).getD default))), [(.vec 5 (.ri .u8 ((laws_vCut_p code0 n1).getD default)))], []⟩)
  | _, _ => none⟩
theorem laws_vCut_fok : FunOK Try.prog 9 := funOK Try.func9 (by kernel_rfl) rfl
theorem laws_vCut_meets (F : Nat) : Meets Try.prog 9 (laws_vCut_ent F) := by
  refine meets_of_runS mixed ttok deep (laws_vCut_tabok F) Try.func9 (body_some rfl) (laws_vCut_lsok0 F) fun args mem hfit ret h => ?_
  clear hfit
  simp only [laws_vCut_ent] at h
  split at h
  · rename_i code0 n1
    simp only [Option.some.injEq, Prod.mk.injEq] at h
    obtain ⟨hc, rfl⟩ := h
    exact ⟨[], [], 70, _, (laws_vCut_run F code0 n1).trans ((laws_vCut_cp _ code0 n1 _).trans (bind_use hc _)), rfl, rfl, rfl⟩
  · cases h

/-! (*loop.example/g01194/spec.l1Cur).cell -/
noncomputable def spec_l1Cur_cell_tab (F : Nat) : Tab := [(34, (spec_l1Cur_one_ent F)), (48, (spec_l1Cur_among_ent F)), (46, (spec_l1Cur_pick_ent F))]
theorem spec_l1Cur_cell_tabok (F : Nat) : TabOK Try.prog (spec_l1Cur_cell_tab F) := (tab_cons (spec_l1Cur_one_meets F) spec_l1Cur_one_fok (tab_cons (spec_l1Cur_among_meets F) spec_l1Cur_among_fok (tab_cons (spec_l1Cur_pick_meets F) spec_l1Cur_pick_fok tab_nil)))
noncomputable def spec_l1Cur_cell_LS0 (F : Nat) : LT := []
theorem spec_l1Cur_cell_lsok0 (F : Nat) : LoopsOK Try.prog (spec_l1Cur_cell_LS0 F) (bodyOf Try.f57) := loopsOK_nil
theorem spec_l1Cur_cell_run (F : Nat) (c3 : List Int) (c4 : Int) (c5 : Int) : runS tt (spec_l1Cur_cell_tab F) (spec_l1Cur_cell_LS0 F) [] [] Try.f57 (bodyOf Try.f57) 70 [(.ptr 0 0 0 3)] [(.var 3 (.rv [(.ri .u8 c3), (.int .i64 c4), (.int .u64 c5)]))] = spec_l1Cur_cell_c _ c3 c4 c5 (fun r => some ⟨(.ints 2 r.1), [(.var 3 (.rv [(.ri .u8 c3), (.int .i64 r.2.1), (.int .u64 r.2.2)]))], []⟩) := by kernel_rfl
def spec_l1Cur_cell_ent (F : Nat) : Ent := ⟨[], .loud, fun args mem => match args, mem with
  | [(.ptr 0 0 0 3)], [(.var 3 (.rv [(.ri .u8 c3), (.int .i64 c4), (.int .u64 c5)]))] => some ((spec_l1Cur_cell_p c3 c4 c5).isSome, ⟨(.ints 2 ((spec_l1Cur_cell_p c3 c4 c5).getD default).1), [(.var 3 (.rv [(.ri .u8 c3), (.int .i64 ((spec_l1Cur_cell_p c3 c4 c5).getD default).2.1), (.int .u64 ((spec_l1Cur_cell_p c3 c4 c5).getD default).2.2)]))], []⟩)
  | _, _ => none⟩
theorem spec_l1Cur_cell_fok : FunOK Try.prog 57 := funOK Try.func57 (by kernel_rfl) rfl
theorem spec_l1Cur_cell_meets (F : Nat) : Meets Try.prog 57 (spec_l1Cur_cell_ent F) := by
  refine meets_of_runS mixed ttok deep (spec_l1Cur_cell_tabok F) Try.func57 (body_some rfl) (spec_l1Cur_cell_lsok0 F) fun args mem hfit ret h => ?_
  clear hfit
  simp only [spec_l1Cur_cell_ent] at h
  split at h
  · rename_i c3 c4 c5
    simp only [Option.some.injEq, Prod.mk.injEq] at h
    obtain ⟨hc, rfl⟩ := h
    exact ⟨[], [], 70, _, (spec_l1Cur_cell_run F c3 c4 c5).trans ((spec_l1Cur_cell_cp _ c3 c4 c5 _).trans (bind_use hc _)), rfl, rfl, rfl⟩
  · cases h

/-! loop.example/g01194/spec.l5All -/
noncomputable def spec_l5All_tab (F : Nat) : Tab := [(29, (spec_l5Steps_ent F))]
theorem spec_l5All_tabok (F : Nat) : TabOK Try.prog (spec_l5All_tab F) := (tab_cons (spec_l5Steps_meets F) spec_l5Steps_fok tab_nil)
noncomputable def spec_l5All_LS0 (F : Nat) : LT := []
theorem spec_l5All_lsok0 (F : Nat) : LoopsOK Try.prog (spec_l5All_LS0 F) (bodyOf Try.f39) := loopsOK_nil
theorem spec_l5All_keys : keysOK (bodyOf Try.f39) = true := by kernel_rfl
def spec_l5All_st3 (b6 : List Int) (d5 : Int) (out7 : List (List Int)) : St := ⟨expand 16 0 [1, 3, 4] [(.ptr 0 0 0 16), (.sl 1 0 (List.length out7)), (.int .i64 d5)], [(.var 16 (.ri .i64 b6)), (.vec 35 (.rr 4 out7))], 0, []⟩
def spec_l5All_o3 (b6 : List Int) (x : List (List Int)) : GT := (.out (.exit 0 ⟨expand 16 0 [3] [(.sl 0 0 (List.length x))], [(.vec 35 (.rr 4 x))], 0, []⟩))
def spec_l5All_ls3 (F : Nat) : LoopS := ⟨16, [1, 3, 4], [], [3], [], [2], [], [], fun vals mem np killed => match vals, mem, np, killed with
  | [(.ptr 0 0 0 16), (.sl 1 0 q_out4), (.int .i64 d5)], [(.var 16 (.ri .i64 b6)), (.vec 35 (.rr 4 out7))], 0, [] => .br ((Nat.beq q_out4 (List.length out7)) && (spec_l5All_l3 F b6 d5 out7).isSome) (spec_l5All_o3 b6 ((spec_l5All_l3 F b6 d5 out7).getD default)) .fail
  | _, _, _, _ => .fail⟩
theorem spec_l5All_step3 (F : Nat) (b6 : List Int) (d5 : Int) (out7 : List (List Int)) {R : Type} (k : Out → Option R) : stepS tt (spec_l5All_tab F) (spec_l5All_LS0 F) 70 (spec_l5All_ls3 F) (loopAt 3 (bodyOf Try.f39)) (spec_l5All_st3 b6 d5 out7) k = spec_l5All_s3 F b6 R (d5, out7) (fun s => k (.norm (spec_l5All_st3 b6 s.1 s.2))) (fun x => (spec_l5All_o3 b6 x).run k) := by kernel_rfl
theorem spec_l5All_iter3 (F : Nat) (b6 : List Int) {R : Type} (k : Out → Option R) : ∀ (n : Nat) (d5 : Int) (out7 : List (List Int)), iterS tt (spec_l5All_tab F) (spec_l5All_LS0 F) 70 (spec_l5All_ls3 F) (loopAt 3 (bodyOf Try.f39)) n (spec_l5All_st3 b6 d5 out7) k = loopC (spec_l5All_s3 F b6) n (d5, out7) (fun x => (spec_l5All_o3 b6 x).run k)
  | 0, d5, out7 => rfl
  | n + 1, d5, out7 => (iterS_succ tt (spec_l5All_tab F) (spec_l5All_LS0 F) 70 (spec_l5All_ls3 F) (loopAt 3 (bodyOf Try.f39)) n (spec_l5All_st3 b6 d5 out7) k).trans ((spec_l5All_step3 F b6 d5 out7 (nextK (iterS tt (spec_l5All_tab F) (spec_l5All_LS0 F) 70 (spec_l5All_ls3 F) (loopAt 3 (bodyOf Try.f39)) n) k)).trans (congrArg (fun kn => spec_l5All_s3 F b6 R (d5, out7) kn _) (funext (fun ⟨d5, out7⟩ => spec_l5All_iter3 F b6 k n d5 out7))))
theorem spec_l5All_lok3 (F : Nat) : LoopOK Try.prog (loopAt 3 (bodyOf Try.f39)) (spec_l5All_ls3 F) := by
  refine loopOK_of mixed ttok deep (spec_l5All_tabok F) (loopsOK_at (spec_l5All_lsok0 F) 3) (fuel := 70) fun R vals mem np killed k x h => ?_
  simp only [spec_l5All_ls3] at h
  split at h
  · rename_i q_out4 d5 b6 out7
    simp only [GT.run] at h
    have hc := (cond_noneL h).1
    replace h := (cond_noneL h).2
    have hg := (and_split hc).1
    replace hc := (and_split hc).2
    obtain rfl := nbeq_nat hg
    refine ⟨F, (spec_l5All_iter3 F b6 k F d5 out7).trans ((loopC_use (spec_l5All_s3_nat F b6) hc _).trans h)⟩
  · simp only [GT.run] at h
    cases h
noncomputable def spec_l5All_LS1 (F : Nat) : LT := (3, spec_l5All_ls3 F) :: spec_l5All_LS0 F
theorem spec_l5All_lsok1 (F : Nat) : LoopsOK Try.prog (spec_l5All_LS1 F) (bodyOf Try.f39) := loopsOK_cons spec_l5All_keys (spec_l5All_lok3 F) (spec_l5All_lsok0 F)
theorem spec_l5All_run (F : Nat) (b0 : List Int) : runS tt (spec_l5All_tab F) (spec_l5All_LS1 F) [] [] Try.f39 (bodyOf Try.f39) 70 [(.ints 16 b0)] [] = spec_l5All_c _ F b0 (fun r => some ⟨(.sl 0 0 (List.length r)), [(.vec 35 (.rr 4 r))], []⟩) := by kernel_rfl
def spec_l5All_ent (F : Nat) : Ent := ⟨[], .fresh, fun args mem => match args, mem with
  | [(.ints 16 b0)], [] => some ((spec_l5All_p F b0).isSome, ⟨(.sl 0 0 (List.length ((spec_l5All_p F b0).getD default))), [(.vec 35 (.rr 4 ((spec_l5All_p F b0).getD default)))], []⟩)
  | _, _ => none⟩
theorem spec_l5All_fok : FunOK Try.prog 39 := funOK Try.func39 (by kernel_rfl) rfl
theorem spec_l5All_meets (F : Nat) : Meets Try.prog 39 (spec_l5All_ent F) := by
  refine meets_of_runS mixed ttok deep (spec_l5All_tabok F) Try.func39 (body_some rfl) (spec_l5All_lsok1 F) fun args mem hfit ret h => ?_
  clear hfit
  simp only [spec_l5All_ent] at h
  split at h
  · rename_i b0
    simp only [Option.some.injEq, Prod.mk.injEq] at h
    obtain ⟨hc, rfl⟩ := h
    exact ⟨[], [], 70, _, (spec_l5All_run F b0).trans ((spec_l5All_cp _ F b0 _).trans (bind_use hc _)), rfl, rfl, rfl⟩
  · cases h

/-! (*loop.example/g01194/spec.l1Cur).step5 -/
noncomputable def spec_l1Cur_step5_tab (F : Nat) : Tab := [(23, (spec_l1Cur_side_ent F)), (57, (spec_l1Cur_cell_ent F)), (46, (spec_l1Cur_pick_ent F)), (27, (spec_l2Board_ent F)), (34, (spec_l1Cur_one_ent F)), (39, (spec_l5All_ent F)), (48, (spec_l1Cur_among_ent F))]
theorem spec_l1Cur_step5_tabok (F : Nat) : TabOK Try.prog (spec_l1Cur_step5_tab F) := (tab_cons (spec_l1Cur_side_meets F) spec_l1Cur_side_fok (tab_cons (spec_l1Cur_cell_meets F) spec_l1Cur_cell_fok (tab_cons (spec_l1Cur_pick_meets F) spec_l1Cur_pick_fok (tab_cons (spec_l2Board_meets F) spec_l2Board_fok (tab_cons (spec_l1Cur_one_meets F) spec_l1Cur_one_fok (tab_cons (spec_l5All_meets F) spec_l5All_fok (tab_cons (spec_l1Cur_among_meets F) spec_l1Cur_among_fok tab_nil)))))))
noncomputable def spec_l1Cur_step5_LS0 (F : Nat) : LT := []
theorem spec_l1Cur_step5_lsok0 (F : Nat) : LoopsOK Try.prog (spec_l1Cur_step5_LS0 F) (bodyOf Try.f30) := loopsOK_nil
theorem spec_l1Cur_step5_run (F : Nat) (b3 : List Int) (c4 : List Int) (c5 : Int) (c6 : Int) : runS tt (spec_l1Cur_step5_tab F) (spec_l1Cur_step5_LS0 F) [] [] Try.f30 (bodyOf Try.f30) 70 [(.ptr 0 0 0 3), (.ints 16 b3)] [(.var 3 (.rv [(.ri .u8 c4), (.int .i64 c5), (.int .u64 c6)]))] = spec_l1Cur_step5_c _ F b3 c4 c5 c6 (fun r => some ⟨(.ints 4 r.1), [(.var 3 (.rv [(.ri .u8 c4), (.int .i64 r.2.1), (.int .u64 r.2.2)]))], []⟩) := by kernel_rfl
def spec_l1Cur_step5_ent (F : Nat) : Ent := ⟨[], .loud, fun args mem => match args, mem with
  | [(.ptr 0 0 0 3), (.ints 16 b3)], [(.var 3 (.rv [(.ri .u8 c4), (.int .i64 c5), (.int .u64 c6)]))] => some ((spec_l1Cur_step5_p F b3 c4 c5 c6).isSome, ⟨(.ints 4 ((spec_l1Cur_step5_p F b3 c4 c5 c6).getD default).1), [(.var 3 (.rv [(.ri .u8 c4), (.int .i64 ((spec_l1Cur_step5_p F b3 c4 c5 c6).getD default).2.1), (.int .u64 ((spec_l1Cur_step5_p F b3 c4 c5 c6).getD default).2.2)]))], []⟩)
  | _, _ => none⟩
theorem spec_l1Cur_step5_fok : FunOK Try.prog 30 := funOK Try.func30 (by kernel_rfl) rfl
theorem spec_l1Cur_step5_meets (F : Nat) : Meets Try.prog 30 (spec_l1Cur_step5_ent F) := by
  refine meets_of_runS mixed ttok deep (spec_l1Cur_step5_tabok F) Try.func30 (body_some rfl) (spec_l1Cur_step5_lsok0 F) fun args mem hfit ret h => ?_
  clear hfit
  simp only [spec_l1Cur_step5_ent] at h
  split at h
  · rename_i b3 c4 c5 c6
    simp only [Option.some.injEq, Prod.mk.injEq] at h
    obtain ⟨hc, rfl⟩ := h
    exact ⟨[], [], 70, _, (spec_l1Cur_step5_run F b3 c4 c5 c6).trans ((spec_l1Cur_step5_cp _ F b3 c4 c5 c6 _).trans (bind_use hc _)), rfl, rfl, rfl⟩
  · cases h

/-! loop.example/g01194/spec.DrawDoStep -/
noncomputable def spec_DrawDoStep_tab (F : Nat) : Tab := [(22, (spec_l1Cur_tight5_ent F)), (30, (spec_l1Cur_step5_ent F))]
theorem spec_DrawDoStep_tabok (F : Nat) : TabOK Try.prog (spec_DrawDoStep_tab F) := (tab_cons (spec_l1Cur_tight5_meets F) spec_l1Cur_tight5_fok (tab_cons (spec_l1Cur_step5_meets F) spec_l1Cur_step5_fok tab_nil))
noncomputable def spec_DrawDoStep_LS0 (F : Nat) : LT := []
theorem spec_DrawDoStep_lsok0 (F : Nat) : LoopsOK Try.prog (spec_DrawDoStep_LS0 F) (bodyOf Try.f8) := loopsOK_nil
theorem spec_DrawDoStep_run (F : Nat) (code0 : List Int) : runS tt (spec_DrawDoStep_tab F) (spec_DrawDoStep_LS0 F) [] [] Try.f8 (bodyOf Try.f8) 70 [(.ri .u8 code0)] [] = spec_DrawDoStep_c _ F code0 (fun r => some ⟨(.tup [(.ints 16 r.1), (.ints 4 r.2)]), [], []⟩) := by kernel_rfl
def spec_DrawDoStep_ent (F : Nat) : Ent := ⟨[], .quiet, fun args mem => match args, mem with
  | [(.ri .u8 code0)], [] => some ((spec_DrawDoStep_p F code0).isSome, ⟨(.tup [(.ints 16 ((spec_DrawDoStep_p F code0).getD default).1), (.ints 4 ((spec_DrawDoStep_p F code0).getD default).2)]), [], []⟩)
  | _, _ => none⟩
theorem spec_DrawDoStep_fok : FunOK Try.prog 8 := funOK Try.func8 (by kernel_rfl) rfl
theorem spec_DrawDoStep_meets (F : Nat) : Meets Try.prog 8 (spec_DrawDoStep_ent F) := by
  refine meets_of_runS mixed ttok deep (spec_DrawDoStep_tabok F) Try.func8 (body_some rfl) (spec_DrawDoStep_lsok0 F) fun args mem hfit ret h => ?_
  clear hfit
  simp only [spec_DrawDoStep_ent] at h
  split at h
  · rename_i code0
    simp only [Option.some.injEq, Prod.mk.injEq] at h
    obtain ⟨hc, rfl⟩ := h
    exact ⟨[], [], 70, _, (spec_DrawDoStep_run F code0).trans ((spec_DrawDoStep_cp _ F code0 _).trans (bind_use hc _)), rfl, rfl, rfl⟩
  · cases h

/-! loop.example/g01194/impl.isCell -/
noncomputable def impl_isCell_tab (F : Nat) : Tab := [(52, (impl_in_ent F))]
theorem impl_isCell_tabok (F : Nat) : TabOK Try.prog (impl_isCell_tab F) := (tab_cons (impl_in_meets F) impl_in_fok tab_nil)
noncomputable def impl_isCell_LS0 (F : Nat) : LT := []
theorem impl_isCell_lsok0 (F : Nat) : LoopsOK Try.prog (impl_isCell_LS0 F) (bodyOf Try.f43) := loopsOK_nil
theorem impl_isCell_run (F : Nat) (cell0 : List Int) : runS tt (impl_isCell_tab F) (impl_isCell_LS0 F) [] [] Try.f43 (bodyOf Try.f43) 70 [(.ints 2 cell0)] [] = impl_isCell_c _ cell0 (fun r => some ⟨(.bool r), [], []⟩) := by kernel_rfl
def impl_isCell_ent (F : Nat) : Ent := ⟨[], .quiet, fun args mem => match args, mem with
  | [(.ints 2 cell0)], [] => some (true, ⟨(.bool (impl_isCell_v cell0)), [], []⟩)
  | _, _ => none⟩
theorem impl_isCell_fok : FunOK Try.prog 43 := funOK Try.func43 (by kernel_rfl) rfl
theorem impl_isCell_meets (F : Nat) : Meets Try.prog 43 (impl_isCell_ent F) := by
  refine meets_of_runS mixed ttok deep (impl_isCell_tabok F) Try.func43 (body_some rfl) (impl_isCell_lsok0 F) fun args mem hfit ret h => ?_
  clear hfit
  simp only [impl_isCell_ent] at h
  split at h
  · rename_i cell0
    simp only [Option.some.injEq, Prod.mk.injEq] at h
    obtain ⟨hc, rfl⟩ := h
    exact ⟨[], [], 70, _, (impl_isCell_run F cell0).trans (impl_isCell_cv _ cell0 _), rfl, rfl, rfl⟩
  · cases h

/-! slices.Index[[]loop.example/g01194/impl.Step,loop.example/g01194/impl.Step] -/
noncomputable def slices_Index_implStepimplStep_tab (F : Nat) : Tab := []
theorem slices_Index_implStepimplStep_tabok (F : Nat) : TabOK Try.prog (slices_Index_implStepimplStep_tab F) := tab_nil
noncomputable def slices_Index_implStepimplStep_LS0 (F : Nat) : LT := []
theorem slices_Index_implStepimplStep_lsok0 (F : Nat) : LoopsOK Try.prog (slices_Index_implStepimplStep_LS0 F) (bodyOf Try.f79) := loopsOK_nil
theorem slices_Index_implStepimplStep_keys : keysOK (bodyOf Try.f79) = true := by kernel_rfl
def slices_Index_implStepimplStep_st2 (s0 : List (List Int)) (t74 : Int) (v6 : List Int) (t85 : Int) : St := ⟨expand 19 0 [0, 3, 7, 8] [(.rr 4 s0), (.ptr 0 0 0 4), (.int .i64 t74), (.int .i64 t85)], [(.var 4 (.ri .i64 v6))], 0, []⟩
def slices_Index_implStepimplStep_o2 (s0 : List (List Int)) (t74 : Int) (v6 : List Int) (x : Bool × Int) : GT := (.br x.1 (.out (.ret ⟨expand 19 0 [4] [(.int .i64 x.2)], [], 0, []⟩)) (.out (.exit 0 ⟨expand 19 0 [] [], [], 0, []⟩)))
def slices_Index_implStepimplStep_ls2 (F : Nat) : LoopS := ⟨19, [0, 3, 7, 8], [], [], [], [4], [], [], fun vals mem np killed => match vals, mem, np, killed with
  | [(.rr 4 s0), (.ptr 0 0 0 4), (.int .i64 t74), (.int .i64 t85)], [(.var 4 (.ri .i64 v6))], 0, [] => .br (slices_Index_implStepimplStep_l2 F s0 t74 v6 t85).isSome (slices_Index_implStepimplStep_o2 s0 t74 v6 ((slices_Index_implStepimplStep_l2 F s0 t74 v6 t85).getD default)) .fail
  | _, _, _, _ => .fail⟩
theorem slices_Index_implStepimplStep_step2 (F : Nat) (s0 : List (List Int)) (t74 : Int) (v6 : List Int) (t85 : Int) {R : Type} (k : Out → Option R) : stepS tt (slices_Index_implStepimplStep_tab F) (slices_Index_implStepimplStep_LS0 F) 70 (slices_Index_implStepimplStep_ls2 F) (loopAt 2 (bodyOf Try.f79)) (slices_Index_implStepimplStep_st2 s0 t74 v6 t85) k = slices_Index_implStepimplStep_s2 F s0 t74 v6 R t85 (fun s => k (.norm (slices_Index_implStepimplStep_st2 s0 t74 v6 s))) (fun x => (slices_Index_implStepimplStep_o2 s0 t74 v6 x).run k) := by kernel_rfl
theorem slices_Index_implStepimplStep_iter2 (F : Nat) (s0 : List (List Int)) (t74 : Int) (v6 : List Int) {R : Type} (k : Out → Option R) : ∀ (n : Nat) (t85 : Int), iterS tt (slices_Index_implStepimplStep_tab F) (slices_Index_implStepimplStep_LS0 F) 70 (slices_Index_implStepimplStep_ls2 F) (loopAt 2 (bodyOf Try.f79)) n (slices_Index_implStepimplStep_st2 s0 t74 v6 t85) k = loopC (slices_Index_implStepimplStep_s2 F s0 t74 v6) n t85 (fun x => (slices_Index_implStepimplStep_o2 s0 t74 v6 x).run k)
  | 0, t85 => rfl
  | n + 1, t85 => (iterS_succ tt (slices_Index_implStepimplStep_tab F) (slices_Index_implStepimplStep_LS0 F) 70 (slices_Index_implStepimplStep_ls2 F) (loopAt 2 (bodyOf Try.f79)) n (slices_Index_implStepimplStep_st2 s0 t74 v6 t85) k).trans ((slices_Index_implStepimplStep_step2 F s0 t74 v6 t85 (nextK (iterS tt (slices_Index_implStepimplStep_tab F) (slices_Index_implStepimplStep_LS0 F) 70 (slices_Index_implStepimplStep_ls2 F) (loopAt 2 (bodyOf Try.f79)) n) k)).trans (congrArg (fun kn => slices_Index_implStepimplStep_s2 F s0 t74 v6 R t85 kn _) (funext (fun t85 => slices_Index_implStepimplStep_iter2 F s0 t74 v6 k n t85))))
theorem slices_Index_implStepimplStep_lok2 (F : Nat) : LoopOK Try.prog (loopAt 2 (bodyOf Try.f79)) (slices_Index_implStepimplStep_ls2 F) := by
  refine loopOK_of mixed ttok deep (slices_Index_implStepimplStep_tabok F) (loopsOK_at (slices_Index_implStepimplStep_lsok0 F) 2) (fuel := 70) fun R vals mem np killed k x h => ?_
  simp only [slices_Index_implStepimplStep_ls2] at h
  split at h
  · rename_i s0 t74 t85 v6
    simp only [GT.run] at h
    have hc := (cond_noneL h).1
    replace h := (cond_noneL h).2
    refine ⟨F, (slices_Index_implStepimplStep_iter2 F s0 t74 v6 k F t85).trans ((loopC_use (slices_Index_implStepimplStep_s2_nat F s0 t74 v6) hc _).trans h)⟩
  · simp only [GT.run] at h
    cases h
noncomputable def slices_Index_implStepimplStep_LS1 (F : Nat) : LT := (2, slices_Index_implStepimplStep_ls2 F) :: slices_Index_implStepimplStep_LS0 F
theorem slices_Index_implStepimplStep_lsok1 (F : Nat) : LoopsOK Try.prog (slices_Index_implStepimplStep_LS1 F) (bodyOf Try.f79) := loopsOK_cons slices_Index_implStepimplStep_keys (slices_Index_implStepimplStep_lok2 F) (slices_Index_implStepimplStep_lsok0 F)
theorem slices_Index_implStepimplStep_run (F : Nat) (s0 : List (List Int)) (v1 : List Int) : runS tt (slices_Index_implStepimplStep_tab F) (slices_Index_implStepimplStep_LS1 F) [] [] Try.f79 (bodyOf Try.f79) 70 [(.rr 4 s0), (.ints 4 v1)] [] = slices_Index_implStepimplStep_c _ F s0 v1 (fun r => some ⟨(.int .i64 r), [], []⟩) := by kernel_rfl
def slices_Index_implStepimplStep_ent (F : Nat) : Ent := ⟨[], .quiet, fun args mem => match args, mem with
  | [(.rr 4 s0), (.ints 4 v1)], [] => some ((slices_Index_implStepimplStep_p F s0 v1).isSome, ⟨(.int .i64 ((slices_Index_implStepimplStep_p F s0 v1).getD default)), [], []⟩)
  | _, _ => none⟩
theorem slices_Index_implStepimplStep_fok : FunOK Try.prog 79 := funOK Try.func79 (by kernel_rfl) rfl
theorem slices_Index_implStepimplStep_meets (F : Nat) : Meets Try.prog 79 (slices_Index_implStepimplStep_ent F) := by
  refine meets_of_runS mixed ttok deep (slices_Index_implStepimplStep_tabok F) Try.func79 (body_some rfl) (slices_Index_implStepimplStep_lsok1 F) fun args mem hfit ret h => ?_
  clear hfit
  simp only [slices_Index_implStepimplStep_ent] at h
  split at h
  · rename_i s0 v1
    simp only [Option.some.injEq, Prod.mk.injEq] at h
    obtain ⟨hc, rfl⟩ := h
    exact ⟨[], [], 70, _, (slices_Index_implStepimplStep_run F s0 v1).trans ((slices_Index_implStepimplStep_cp _ F s0 v1 _).trans (bind_use hc _)), rfl, rfl, rfl⟩
  · cases h

/-! slices.Contains[[]loop.example/g01194/impl.Step,loop.example/g01194/impl.Step] -/
noncomputable def slices_Contains_implStepimplStep_tab (F : Nat) : Tab := [(79, (slices_Index_implStepimplStep_ent F))]
theorem slices_Contains_implStepimplStep_tabok (F : Nat) : TabOK Try.prog (slices_Contains_implStepimplStep_tab F) := (tab_cons (slices_Index_implStepimplStep_meets F) slices_Index_implStepimplStep_fok tab_nil)
noncomputable def slices_Contains_implStepimplStep_LS0 (F : Nat) : LT := []
theorem slices_Contains_implStepimplStep_lsok0 (F : Nat) : LoopsOK Try.prog (slices_Contains_implStepimplStep_LS0 F) (bodyOf Try.f58) := loopsOK_nil
theorem slices_Contains_implStepimplStep_run (F : Nat) (s0 : List (List Int)) (v1 : List Int) : runS tt (slices_Contains_implStepimplStep_tab F) (slices_Contains_implStepimplStep_LS0 F) [] [] Try.f58 (bodyOf Try.f58) 70 [(.rr 4 s0), (.ints 4 v1)] [] = slices_Contains_implStepimplStep_c _ F s0 v1 (fun r => some ⟨(.bool r), [], []⟩) := by kernel_rfl
def slices_Contains_implStepimplStep_ent (F : Nat) : Ent := ⟨[], .quiet, fun args mem => match args, mem with
  | [(.rr 4 s0), (.ints 4 v1)], [] => some ((slices_Contains_implStepimplStep_p F s0 v1).isSome, ⟨(.bool ((slices_Contains_implStepimplStep_p F s0 v1).getD default)), [], []⟩)
  | _, _ => none⟩
theorem slices_Contains_implStepimplStep_fok : FunOK Try.prog 58 := funOK Try.func58 (by kernel_rfl) rfl
theorem slices_Contains_implStepimplStep_meets (F : Nat) : Meets Try.prog 58 (slices_Contains_implStepimplStep_ent F) := by
  refine meets_of_runS mixed ttok deep (slices_Contains_implStepimplStep_tabok F) Try.func58 (body_some rfl) (slices_Contains_implStepimplStep_lsok0 F) fun args mem hfit ret h => ?_
  clear hfit
  simp only [slices_Contains_implStepimplStep_ent] at h
  split at h
  · rename_i s0 v1
    simp only [Option.some.injEq, Prod.mk.injEq] at h
    obtain ⟨hc, rfl⟩ := h
    exact ⟨[], [], 70, _, (slices_Contains_implStepimplStep_run F s0 v1).trans ((slices_Contains_implStepimplStep_cp _ F s0 v1 _).trans (bind_use hc _)), rfl, rfl, rfl⟩
  · cases h

/-! (loop.example/g01194/impl.Board).isStep -/
noncomputable def impl_Board_isStep_tab (F : Nat) : Tab := [(25, (impl_isDirection_ent F)), (43, (impl_isCell_ent F)), (26, (impl_Board_steps_ent F)), (58, (slices_Contains_implStepimplStep_ent F))]
theorem impl_Board_isStep_tabok (F : Nat) : TabOK Try.prog (impl_Board_isStep_tab F) := (tab_cons (impl_isDirection_meets F) impl_isDirection_fok (tab_cons (impl_isCell_meets F) impl_isCell_fok (tab_cons (impl_Board_steps_meets F) impl_Board_steps_fok (tab_cons (slices_Contains_implStepimplStep_meets F) slices_Contains_implStepimplStep_fok tab_nil))))
noncomputable def impl_Board_isStep_LS0 (F : Nat) : LT := []
theorem impl_Board_isStep_lsok0 (F : Nat) : LoopsOK Try.prog (impl_Board_isStep_LS0 F) (bodyOf Try.f31) := loopsOK_nil
theorem impl_Board_isStep_run (F : Nat) (b0 : List Int) (s1 : List Int) : runS tt (impl_Board_isStep_tab F) (impl_Board_isStep_LS0 F) [] [] Try.f31 (bodyOf Try.f31) 70 [(.ints 16 b0), (.ints 4 s1)] [] = impl_Board_isStep_c _ F b0 s1 (fun r => some ⟨(.bool r), [], []⟩) := by kernel_rfl
def impl_Board_isStep_ent (F : Nat) : Ent := ⟨[], .quiet, fun args mem => match args, mem with
  | [(.ints 16 b0), (.ints 4 s1)], [] => some ((impl_Board_isStep_p F b0 s1).isSome, ⟨(.bool ((impl_Board_isStep_p F b0 s1).getD default)), [], []⟩)
  | _, _ => none⟩
theorem impl_Board_isStep_fok : FunOK Try.prog 31 := funOK Try.func31 (by kernel_rfl) rfl
theorem impl_Board_isStep_meets (F : Nat) : Meets Try.prog 31 (impl_Board_isStep_ent F) := by
  refine meets_of_runS mixed ttok deep (impl_Board_isStep_tabok F) Try.func31 (body_some rfl) (impl_Board_isStep_lsok0 F) fun args mem hfit ret h => ?_
  clear hfit
  simp only [impl_Board_isStep_ent] at h
  split at h
  · rename_i b0 s1
    simp only [Option.some.injEq, Prod.mk.injEq] at h
    obtain ⟨hc, rfl⟩ := h
    exact ⟨[], [], 70, _, (impl_Board_isStep_run F b0 s1).trans ((impl_Board_isStep_cp _ F b0 s1 _).trans (bind_use hc _)), rfl, rfl, rfl⟩
  · cases h

/-! (loop.example/g01194/impl.Board).behind -/
noncomputable def impl_Board_behind_tab (F : Nat) : Tab := [(42, (impl_Board_slide_ent F)), (44, (impl_Board_at_ent F))]
theorem impl_Board_behind_tabok (F : Nat) : TabOK Try.prog (impl_Board_behind_tab F) := (tab_cons (impl_Board_slide_meets F) impl_Board_slide_fok (tab_cons (impl_Board_at_meets F) impl_Board_at_fok tab_nil))
noncomputable def impl_Board_behind_LS0 (F : Nat) : LT := []
theorem impl_Board_behind_lsok0 (F : Nat) : LoopsOK Try.prog (impl_Board_behind_LS0 F) (bodyOf Try.f32) := loopsOK_nil
theorem impl_Board_behind_run (F : Nat) (b0 : List Int) (s1 : List Int) : runS tt (impl_Board_behind_tab F) (impl_Board_behind_LS0 F) [] [] Try.f32 (bodyOf Try.f32) 70 [(.ints 16 b0), (.ints 4 s1)] [] = impl_Board_behind_c _ F b0 s1 (fun r => some ⟨(.tup [(.ints 16 r.1), (.int .i64 r.2)]), [], []⟩) := by kernel_rfl
def impl_Board_behind_ent (F : Nat) : Ent := ⟨[], .quiet, fun args mem => match args, mem with
  | [(.ints 16 b0), (.ints 4 s1)], [] => some ((impl_Board_behind_p F b0 s1).isSome, ⟨(.tup [(.ints 16 ((impl_Board_behind_p F b0 s1).getD default).1), (.int .i64 ((impl_Board_behind_p F b0 s1).getD default).2)]), [], []⟩)
  | _, _ => none⟩
theorem impl_Board_behind_fok : FunOK Try.prog 32 := funOK Try.func32 (by kernel_rfl) rfl
theorem impl_Board_behind_meets (F : Nat) : Meets Try.prog 32 (impl_Board_behind_ent F) := by
  refine meets_of_runS mixed ttok deep (impl_Board_behind_tabok F) Try.func32 (body_some rfl) (impl_Board_behind_lsok0 F) fun args mem hfit ret h => ?_
  clear hfit
  simp only [impl_Board_behind_ent] at h
  split at h
  · rename_i b0 s1
    simp only [Option.some.injEq, Prod.mk.injEq] at h
    obtain ⟨hc, rfl⟩ := h
    exact ⟨[], [], 70, _, (impl_Board_behind_run F b0 s1).trans ((impl_Board_behind_cp _ F b0 s1 _).trans (bind_use hc _)), rfl, rfl, rfl⟩
  · cases h

/-! loop.example/g01194/impl.DoStep -/
noncomputable def impl_DoStep_tab (F : Nat) : Tab := [(24, (impl_IsBoard_ent F)), (31, (impl_Board_isStep_ent F)), (32, (impl_Board_behind_ent F))]
theorem impl_DoStep_tabok (F : Nat) : TabOK Try.prog (impl_DoStep_tab F) := (tab_cons (impl_IsBoard_meets F) impl_IsBoard_fok (tab_cons (impl_Board_isStep_meets F) impl_Board_isStep_fok (tab_cons (impl_Board_behind_meets F) impl_Board_behind_fok tab_nil)))
noncomputable def impl_DoStep_LS0 (F : Nat) : LT := []
theorem impl_DoStep_lsok0 (F : Nat) : LoopsOK Try.prog (impl_DoStep_LS0 F) (bodyOf Try.f10) := loopsOK_nil
theorem impl_DoStep_run (F : Nat) (b0 : List Int) (s1 : List Int) : runS tt (impl_DoStep_tab F) (impl_DoStep_LS0 F) [] [] Try.f10 (bodyOf Try.f10) 70 [(.ints 16 b0), (.ints 4 s1)] [] = impl_DoStep_c _ F b0 s1 (fun r => some ⟨(.tup [(.ints 16 r.1), (.int .i64 r.2.1), (.bool r.2.2)]), [], []⟩) := by kernel_rfl
def impl_DoStep_ent (F : Nat) : Ent := ⟨[], .quiet, fun args mem => match args, mem with
  | [(.ints 16 b0), (.ints 4 s1)], [] => some ((impl_DoStep_p F b0 s1).isSome, ⟨(.tup [(.ints 16 ((impl_DoStep_p F b0 s1).getD default).1), (.int .i64 ((impl_DoStep_p F b0 s1).getD default).2.1), (.bool ((impl_DoStep_p F b0 s1).getD default).2.2)]), [], []⟩)
  | _, _ => none⟩
theorem impl_DoStep_fok : FunOK Try.prog 10 := funOK Try.func10 (by kernel_rfl) rfl
theorem impl_DoStep_meets (F : Nat) : Meets Try.prog 10 (impl_DoStep_ent F) := by
  refine meets_of_runS mixed ttok deep (impl_DoStep_tabok F) Try.func10 (body_some rfl) (impl_DoStep_lsok0 F) fun args mem hfit ret h => ?_
  clear hfit
  simp only [impl_DoStep_ent] at h
  split at h
  · rename_i b0 s1
    simp only [Option.some.injEq, Prod.mk.injEq] at h
    obtain ⟨hc, rfl⟩ := h
    exact ⟨[], [], 70, _, (impl_DoStep_run F b0 s1).trans ((impl_DoStep_cp _ F b0 s1 _).trans (bind_use hc _)), rfl, rfl, rfl⟩
  · cases h

/-! loop.example/g01194/spec.l2Cell -/
noncomputable def spec_l2Cell_tab (F : Nat) : Tab := [(54, (spec_l1In_ent F))]
theorem spec_l2Cell_tabok (F : Nat) : TabOK Try.prog (spec_l2Cell_tab F) := (tab_cons (spec_l1In_meets F) spec_l1In_fok tab_nil)
noncomputable def spec_l2Cell_LS0 (F : Nat) : LT := []
theorem spec_l2Cell_lsok0 (F : Nat) : LoopsOK Try.prog (spec_l2Cell_LS0 F) (bodyOf Try.f59) := loopsOK_nil
theorem spec_l2Cell_run (F : Nat) (cell0 : List Int) : runS tt (spec_l2Cell_tab F) (spec_l2Cell_LS0 F) [] [] Try.f59 (bodyOf Try.f59) 70 [(.ints 2 cell0)] [] = spec_l2Cell_c _ cell0 (fun r => some ⟨(.bool r), [], []⟩) := by kernel_rfl
def spec_l2Cell_ent (F : Nat) : Ent := ⟨[], .quiet, fun args mem => match args, mem with
  | [(.ints 2 cell0)], [] => some (true, ⟨(.bool (spec_l2Cell_v cell0)), [], []⟩)
  | _, _ => none⟩
theorem spec_l2Cell_fok : FunOK Try.prog 59 := funOK Try.func59 (by kernel_rfl) rfl
theorem spec_l2Cell_meets (F : Nat) : Meets Try.prog 59 (spec_l2Cell_ent F) := by
  refine meets_of_runS mixed ttok deep (spec_l2Cell_tabok F) Try.func59 (body_some rfl) (spec_l2Cell_lsok0 F) fun args mem hfit ret h => ?_
  clear hfit
  simp only [spec_l2Cell_ent] at h
  split at h
  · rename_i cell0
    simp only [Option.some.injEq, Prod.mk.injEq] at h
    obtain ⟨hc, rfl⟩ := h
    exact ⟨[], [], 70, _, (spec_l2Cell_run F cell0).trans (spec_l2Cell_cv _ cell0 _), rfl, rfl, rfl⟩
  · cases h

/-! loop.example/g01194/spec.l5Do -/
noncomputable def spec_l5Do_tab (F : Nat) : Tab := [(28, (spec_l2Side_ent F)), (59, (spec_l2Cell_ent F)), (54, (spec_l1In_ent F)), (55, (spec_l2Slide_ent F)), (60, (spec_l2At_ent F)), (47, (spec_l2Put_ent F))]
theorem spec_l5Do_tabok (F : Nat) : TabOK Try.prog (spec_l5Do_tab F) := (tab_cons (spec_l2Side_meets F) spec_l2Side_fok (tab_cons (spec_l2Cell_meets F) spec_l2Cell_fok (tab_cons (spec_l1In_meets F) spec_l1In_fok (tab_cons (spec_l2Slide_meets F) spec_l2Slide_fok (tab_cons (spec_l2At_meets F) spec_l2At_fok (tab_cons (spec_l2Put_meets F) spec_l2Put_fok tab_nil))))))
noncomputable def spec_l5Do_LS0 (F : Nat) : LT := []
theorem spec_l5Do_lsok0 (F : Nat) : LoopsOK Try.prog (spec_l5Do_LS0 F) (bodyOf Try.f33) := loopsOK_nil
theorem spec_l5Do_run (F : Nat) (b0 : List Int) (s1 : List Int) : runS tt (spec_l5Do_tab F) (spec_l5Do_LS0 F) [] [] Try.f33 (bodyOf Try.f33) 70 [(.ints 16 b0), (.ints 4 s1)] [] = spec_l5Do_c _ F b0 s1 (fun r => some ⟨(.tup [(.ints 16 r.1), (.int .i64 r.2.1), (.bool r.2.2)]), [], []⟩) := by kernel_rfl
def spec_l5Do_ent (F : Nat) : Ent := ⟨[], .quiet, fun args mem => match args, mem with
  | [(.ints 16 b0), (.ints 4 s1)], [] => some ((spec_l5Do_p F b0 s1).isSome, ⟨(.tup [(.ints 16 ((spec_l5Do_p F b0 s1).getD default).1), (.int .i64 ((spec_l5Do_p F b0 s1).getD default).2.1), (.bool ((spec_l5Do_p F b0 s1).getD default).2.2)]), [], []⟩)
  | _, _ => none⟩
theorem spec_l5Do_fok : FunOK Try.prog 33 := funOK Try.func33 (by kernel_rfl) rfl
theorem spec_l5Do_meets (F : Nat) : Meets Try.prog 33 (spec_l5Do_ent F) := by
  refine meets_of_runS mixed ttok deep (spec_l5Do_tabok F) Try.func33 (body_some rfl) (spec_l5Do_lsok0 F) fun args mem hfit ret h => ?_
  clear hfit
  simp only [spec_l5Do_ent] at h
  split at h
  · rename_i b0 s1
    simp only [Option.some.injEq, Prod.mk.injEq] at h
    obtain ⟨hc, rfl⟩ := h
    exact ⟨[], [], 70, _, (spec_l5Do_run F b0 s1).trans ((spec_l5Do_cp _ F b0 s1 _).trans (bind_use hc _)), rfl, rfl, rfl⟩
  · cases h

/-! loop.example/g01194/spec.DoStep -/
noncomputable def spec_DoStep_tab (F : Nat) : Tab := [(27, (spec_l2Board_ent F)), (33, (spec_l5Do_ent F))]
theorem spec_DoStep_tabok (F : Nat) : TabOK Try.prog (spec_DoStep_tab F) := (tab_cons (spec_l2Board_meets F) spec_l2Board_fok (tab_cons (spec_l5Do_meets F) spec_l5Do_fok tab_nil))
noncomputable def spec_DoStep_LS0 (F : Nat) : LT := []
theorem spec_DoStep_lsok0 (F : Nat) : LoopsOK Try.prog (spec_DoStep_LS0 F) (bodyOf Try.f11) := loopsOK_nil
theorem spec_DoStep_run (F : Nat) (b0 : List Int) (s1 : List Int) : runS tt (spec_DoStep_tab F) (spec_DoStep_LS0 F) [] [] Try.f11 (bodyOf Try.f11) 70 [(.ints 16 b0), (.ints 4 s1)] [] = spec_DoStep_c _ F b0 s1 (fun r => some ⟨(.tup [(.ints 16 r.1), (.int .i64 r.2.1), (.bool r.2.2)]), [], []⟩) := by kernel_rfl
def spec_DoStep_ent (F : Nat) : Ent := ⟨[], .quiet, fun args mem => match args, mem with
  | [(.ints 16 b0), (.ints 4 s1)], [] => some ((spec_DoStep_p F b0 s1).isSome, ⟨(.tup [(.ints 16 ((spec_DoStep_p F b0 s1).getD default).1), (.int .i64 ((spec_DoStep_p F b0 s1).getD default).2.1), (.bool ((spec_DoStep_p F b0 s1).getD default).2.2)]), [], []⟩)
  | _, _ => none⟩
theorem spec_DoStep_fok : FunOK Try.prog 11 := funOK Try.func11 (by kernel_rfl) rfl
theorem spec_DoStep_meets (F : Nat) : Meets Try.prog 11 (spec_DoStep_ent F) := by
  refine meets_of_runS mixed ttok deep (spec_DoStep_tabok F) Try.func11 (body_some rfl) (spec_DoStep_lsok0 F) fun args mem hfit ret h => ?_
  clear hfit
  simp only [spec_DoStep_ent] at h
  split at h
  · rename_i b0 s1
    simp only [Option.some.injEq, Prod.mk.injEq] at h
    obtain ⟨hc, rfl⟩ := h
    exact ⟨[], [], 70, _, (spec_DoStep_run F b0 s1).trans ((spec_DoStep_cp _ F b0 s1 _).trans (bind_use hc _)), rfl, rfl, rfl⟩
  · cases h
end Go.Proofs.Ytabfliifleonaaf
