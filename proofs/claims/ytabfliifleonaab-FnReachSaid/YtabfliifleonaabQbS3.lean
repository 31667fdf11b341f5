/-
Pure functions and what the code of them does, by program; without conditions.
-/
import Derived.Test.YtabfliifleonaabQbP3
import Derived.Test.YtabfliifleonaabQbS2
namespace Go.Proofs.Ytabfliifleonaab
open Go Go.Lv Go.Lv.P Go.Proofs
set_option linter.unusedVariables false
set_option linter.unusedSimpArgs false
set_option maxRecDepth 100000
/-! loop.example/g01194/spec.l2Slide -/
noncomputable def spec_l2Slide_tab (F : Nat) : Tab := [(49, (spec_l2Numbers_ent F)), (48, (spec_l2Row_ent F)), (50, (spec_l2Line_ent F)), (51, (spec_l2Put_ent F))]
theorem spec_l2Slide_tabok (F : Nat) : TabOK Try.prog (spec_l2Slide_tab F) := (tab_cons (spec_l2Numbers_meets F) spec_l2Numbers_fok (tab_cons (spec_l2Row_meets F) spec_l2Row_fok (tab_cons (spec_l2Line_meets F) spec_l2Line_fok (tab_cons (spec_l2Put_meets F) spec_l2Put_fok tab_nil))))
noncomputable def spec_l2Slide_LS0 (F : Nat) : LT := []
theorem spec_l2Slide_lsok0 (F : Nat) : LoopsOK Try.prog (spec_l2Slide_LS0 F) (bodyOf Try.f29) := loopsOK_nil
theorem spec_l2Slide_keys : keysOK (bodyOf Try.f29) = true := by kernel_rfl
def spec_l2Slide_st3 (d0 : Int) (b12 : List Int) (sum10 : Int) (i11 : Int) (out14 : List Int) : St := ⟨expand 46 0 [1, 2, 4, 6, 7, 8] [(.int .i64 d0), (.ptr 0 0 0 16), (.ptr 1 0 0 16), (.ptr 2 0 0 16), (.int .i64 sum10), (.int .i64 i11)], [(.var 16 (.ri .i64 b12)), (.var 16 (.ri .i64 [(0 : Int), (0 : Int), (0 : Int), (0 : Int), (0 : Int), (0 : Int), (0 : Int), (0 : Int), (0 : Int), (0 : Int), (0 : Int), (0 : Int), (0 : Int), (0 : Int), (0 : Int), (0 : Int)])), (.var 16 (.ri .i64 out14))], 0, []⟩
def spec_l2Slide_o3 (d0 : Int) (b12 : List Int) (x : Int × List Int) : GT := (.out (.exit 0 ⟨expand 46 0 [4, 6, 7] [(.ptr 0 0 0 16), (.ptr 1 0 0 16), (.int .i64 x.1)], [(.var 16 (.ri .i64 [(0 : Int), (0 : Int), (0 : Int), (0 : Int), (0 : Int), (0 : Int), (0 : Int), (0 : Int), (0 : Int), (0 : Int), (0 : Int), (0 : Int), (0 : Int), (0 : Int), (0 : Int), (0 : Int)])), (.var 16 (.ri .i64 x.2))], 0, []⟩))
def spec_l2Slide_ls3 (F : Nat) : LoopS := ⟨46, [1, 2, 4, 6, 7, 8], [], [4, 6, 7], [], [4, 5], [], [], fun vals mem np killed => match vals, mem, np, killed with
  | [(.int .i64 d0), (.ptr 0 0 0 16), (.ptr 1 0 0 16), (.ptr 2 0 0 16), (.int .i64 sum10), (.int .i64 i11)], [(.var 16 (.ri .i64 b12)), (.var 16 (.ri .i64 q_t413)), (.var 16 (.ri .i64 out14))], 0, [] => .br ((q_t413 == ([(0 : Int), (0 : Int), (0 : Int), (0 : Int), (0 : Int), (0 : Int), (0 : Int), (0 : Int), (0 : Int), (0 : Int), (0 : Int), (0 : Int), (0 : Int), (0 : Int), (0 : Int), (0 : Int)] : List Int)) && (spec_l2Slide_l3 F d0 b12 sum10 i11 out14).isSome) (spec_l2Slide_o3 d0 b12 ((spec_l2Slide_l3 F d0 b12 sum10 i11 out14).getD default)) .fail
  | _, _, _, _ => .fail⟩
theorem spec_l2Slide_step3 (F : Nat) (d0 : Int) (b12 : List Int) (sum10 : Int) (i11 : Int) (out14 : List Int) {R : Type} (k : Out → Option R) : stepS tt (spec_l2Slide_tab F) (spec_l2Slide_LS0 F) 70 (spec_l2Slide_ls3 F) (loopAt 3 (bodyOf Try.f29)) (spec_l2Slide_st3 d0 b12 sum10 i11 out14) k = spec_l2Slide_s3 F d0 b12 R (sum10, i11, out14) (fun s => k (.norm (spec_l2Slide_st3 d0 b12 s.1 s.2.1 s.2.2))) (fun x => (spec_l2Slide_o3 d0 b12 x).run k) := by kernel_rfl
theorem spec_l2Slide_iter3 (F : Nat) (d0 : Int) (b12 : List Int) {R : Type} (k : Out → Option R) : ∀ (n : Nat) (sum10 : Int) (i11 : Int) (out14 : List Int), iterS tt (spec_l2Slide_tab F) (spec_l2Slide_LS0 F) 70 (spec_l2Slide_ls3 F) (loopAt 3 (bodyOf Try.f29)) n (spec_l2Slide_st3 d0 b12 sum10 i11 out14) k = loopC (spec_l2Slide_s3 F d0 b12) n (sum10, i11, out14) (fun x => (spec_l2Slide_o3 d0 b12 x).run k)
  | 0, sum10, i11, out14 => rfl
  | n + 1, sum10, i11, out14 => (iterS_succ tt (spec_l2Slide_tab F) (spec_l2Slide_LS0 F) 70 (spec_l2Slide_ls3 F) (loopAt 3 (bodyOf Try.f29)) n (spec_l2Slide_st3 d0 b12 sum10 i11 out14) k).trans ((spec_l2Slide_step3 F d0 b12 sum10 i11 out14 (nextK (iterS tt (spec_l2Slide_tab F) (spec_l2Slide_LS0 F) 70 (spec_l2Slide_ls3 F) (loopAt 3 (bodyOf Try.f29)) n) k)).trans (congrArg (fun kn => spec_l2Slide_s3 F d0 b12 R (sum10, i11, out14) kn _) (funext (fun ⟨sum10, i11, out14⟩ => spec_l2Slide_iter3 F d0 b12 k n sum10 i11 out14))))
theorem spec_l2Slide_lok3 (F : Nat) : LoopOK Try.prog (loopAt 3 (bodyOf Try.f29)) (spec_l2Slide_ls3 F) := by
  refine loopOK_of mixed ttok deep (spec_l2Slide_tabok F) (loopsOK_at (spec_l2Slide_lsok0 F) 3) (fuel := 70) fun R vals mem np killed k x h => ?_
  simp only [spec_l2Slide_ls3] at h
  split at h
  · rename_i d0 sum10 i11 b12 q_t413 out14
    simp only [GT.run] at h
    have hc := (cond_noneL h).1
    replace h := (cond_noneL h).2
    have hg := (and_split hc).1
    replace hc := (and_split hc).2
    obtain rfl := beq_li hg
    refine ⟨F, (spec_l2Slide_iter3 F d0 b12 k F sum10 i11 out14).trans ((loopC_use (spec_l2Slide_s3_nat F d0 b12) hc _).trans h)⟩
  · simp only [GT.run] at h
    cases h
noncomputable def spec_l2Slide_LS1 (F : Nat) : LT := (3, spec_l2Slide_ls3 F) :: spec_l2Slide_LS0 F
theorem spec_l2Slide_lsok1 (F : Nat) : LoopsOK Try.prog (spec_l2Slide_LS1 F) (bodyOf Try.f29) := loopsOK_cons spec_l2Slide_keys (spec_l2Slide_lok3 F) (spec_l2Slide_lsok0 F)
theorem spec_l2Slide_run (F : Nat) (b0 : List Int) (d1 : Int) : runS tt (spec_l2Slide_tab F) (spec_l2Slide_LS1 F) [] [] Try.f29 (bodyOf Try.f29) 70 [(.ints 16 b0), (.int .i64 d1)] [] = spec_l2Slide_c _ F b0 d1 (fun r => some ⟨(.tup [(.ints 16 r.1), (.int .i64 r.2)]), [], []⟩) := by kernel_rfl
def spec_l2Slide_ent (F : Nat) : Ent := ⟨[], .quiet, fun args mem => match args, mem with
  | [(.ints 16 b0), (.int .i64 d1)], [] => some ((spec_l2Slide_p F b0 d1).isSome, ⟨(.tup [(.ints 16 ((spec_l2Slide_p F b0 d1).getD default).1), (.int .i64 ((spec_l2Slide_p F b0 d1).getD default).2)]), [], []⟩)
  | _, _ => none⟩
theorem spec_l2Slide_fok : FunOK Try.prog 29 := funOK Try.func29 (by kernel_rfl) rfl
theorem spec_l2Slide_meets (F : Nat) : Meets Try.prog 29 (spec_l2Slide_ent F) := by
  refine meets_of_runS mixed ttok deep (spec_l2Slide_tabok F) Try.func29 (body_some rfl) (spec_l2Slide_lsok1 F) fun args mem hfit ret h => ?_
  clear hfit
  simp only [spec_l2Slide_ent] at h
  split at h
  · rename_i b0 d1
    simp only [Option.some.injEq, Prod.mk.injEq] at h
    obtain ⟨hc, rfl⟩ := h
    exact ⟨[], [], 70, _, (spec_l2Slide_run F b0 d1).trans ((spec_l2Slide_cp _ F b0 d1 _).trans (bind_use hc _)), rfl, rfl, rfl⟩
  · cases h

/-! loop.example/g01194/spec.l2Before -/
noncomputable def spec_l2Before_tab (F : Nat) : Tab := []
theorem spec_l2Before_tabok (F : Nat) : TabOK Try.prog (spec_l2Before_tab F) := tab_nil
noncomputable def spec_l2Before_LS0 (F : Nat) : LT := []
theorem spec_l2Before_lsok0 (F : Nat) : LoopsOK Try.prog (spec_l2Before_LS0 F) (bodyOf Try.f86) := loopsOK_nil
theorem spec_l2Before_keys : keysOK (bodyOf Try.f86) = true := by kernel_rfl
def spec_l2Before_st5 (r6 : Int) (a8 : List Int) (b9 : List Int) (c7 : Int) : St := ⟨expand 41 0 [2, 3, 5, 6] [(.ptr 0 0 0 16), (.ptr 1 0 0 16), (.int .i64 r6), (.int .i64 c7)], [(.var 16 (.ri .i64 a8)), (.var 16 (.ri .i64 b9))], 0, []⟩
def spec_l2Before_o5 (r6 : Int) (a8 : List Int) (b9 : List Int) (x : Bool × Bool) : GT := (.br x.1 (.out (.ret ⟨expand 41 0 [4] [(.bool x.2)], [], 0, []⟩)) (.out (.exit 2 ⟨expand 41 0 [2, 3, 5] [(.ptr 0 0 0 16), (.ptr 1 0 0 16), (.int .i64 r6)], [(.var 16 (.ri .i64 a8)), (.var 16 (.ri .i64 b9))], 0, []⟩)))
def spec_l2Before_ls5 (F : Nat) : LoopS := ⟨41, [2, 3, 5, 6], [], [2, 3, 5], [], [4], [], [], fun vals mem np killed => match vals, mem, np, killed with
  | [(.ptr 0 0 0 16), (.ptr 1 0 0 16), (.int .i64 r6), (.int .i64 c7)], [(.var 16 (.ri .i64 a8)), (.var 16 (.ri .i64 b9))], 0, [] => .br (spec_l2Before_l5 F r6 a8 b9 c7).isSome (spec_l2Before_o5 r6 a8 b9 ((spec_l2Before_l5 F r6 a8 b9 c7).getD default)) .fail
  | _, _, _, _ => .fail⟩
theorem spec_l2Before_step5 (F : Nat) (r6 : Int) (a8 : List Int) (b9 : List Int) (c7 : Int) {R : Type} (k : Out → Option R) : stepS tt (spec_l2Before_tab F) (spec_l2Before_LS0 F) 70 (spec_l2Before_ls5 F) (loopAt 5 (bodyOf Try.f86)) (spec_l2Before_st5 r6 a8 b9 c7) k = spec_l2Before_s5 F r6 a8 b9 R c7 (fun s => k (.norm (spec_l2Before_st5 r6 a8 b9 s))) (fun x => (spec_l2Before_o5 r6 a8 b9 x).run k) := by kernel_rfl
theorem spec_l2Before_iter5 (F : Nat) (r6 : Int) (a8 : List Int) (b9 : List Int) {R : Type} (k : Out → Option R) : ∀ (n : Nat) (c7 : Int), iterS tt (spec_l2Before_tab F) (spec_l2Before_LS0 F) 70 (spec_l2Before_ls5 F) (loopAt 5 (bodyOf Try.f86)) n (spec_l2Before_st5 r6 a8 b9 c7) k = loopC (spec_l2Before_s5 F r6 a8 b9) n c7 (fun x => (spec_l2Before_o5 r6 a8 b9 x).run k)
  | 0, c7 => rfl
  | n + 1, c7 => (iterS_succ tt (spec_l2Before_tab F) (spec_l2Before_LS0 F) 70 (spec_l2Before_ls5 F) (loopAt 5 (bodyOf Try.f86)) n (spec_l2Before_st5 r6 a8 b9 c7) k).trans ((spec_l2Before_step5 F r6 a8 b9 c7 (nextK (iterS tt (spec_l2Before_tab F) (spec_l2Before_LS0 F) 70 (spec_l2Before_ls5 F) (loopAt 5 (bodyOf Try.f86)) n) k)).trans (congrArg (fun kn => spec_l2Before_s5 F r6 a8 b9 R c7 kn _) (funext (fun c7 => spec_l2Before_iter5 F r6 a8 b9 k n c7))))
theorem spec_l2Before_lok5 (F : Nat) : LoopOK Try.prog (loopAt 5 (bodyOf Try.f86)) (spec_l2Before_ls5 F) := by
  refine loopOK_of mixed ttok deep (spec_l2Before_tabok F) (loopsOK_at (spec_l2Before_lsok0 F) 5) (fuel := 70) fun R vals mem np killed k x h => ?_
  simp only [spec_l2Before_ls5] at h
  split at h
  · rename_i r6 c7 a8 b9
    simp only [GT.run] at h
    have hc := (cond_noneL h).1
    replace h := (cond_noneL h).2
    refine ⟨F, (spec_l2Before_iter5 F r6 a8 b9 k F c7).trans ((loopC_use (spec_l2Before_s5_nat F r6 a8 b9) hc _).trans h)⟩
  · simp only [GT.run] at h
    cases h
noncomputable def spec_l2Before_LS1 (F : Nat) : LT := (5, spec_l2Before_ls5 F) :: spec_l2Before_LS0 F
theorem spec_l2Before_lsok1 (F : Nat) : LoopsOK Try.prog (spec_l2Before_LS1 F) (bodyOf Try.f86) := loopsOK_cons spec_l2Before_keys (spec_l2Before_lok5 F) (spec_l2Before_lsok0 F)
def spec_l2Before_st2 (a7 : List Int) (b8 : List Int) (r6 : Int) : St := ⟨expand 41 0 [2, 3, 5] [(.ptr 0 0 0 16), (.ptr 1 0 0 16), (.int .i64 r6)], [(.var 16 (.ri .i64 a7)), (.var 16 (.ri .i64 b8))], 0, []⟩
def spec_l2Before_o2 (a7 : List Int) (b8 : List Int) (x : Bool × Bool) : GT := (.br x.1 (.out (.ret ⟨expand 41 0 [4] [(.bool x.2)], [], 0, []⟩)) (.out (.exit 0 ⟨expand 41 0 [] [], [], 0, []⟩)))
def spec_l2Before_ls2 (F : Nat) : LoopS := ⟨41, [2, 3, 5], [], [], [], [4], [], [], fun vals mem np killed => match vals, mem, np, killed with
  | [(.ptr 0 0 0 16), (.ptr 1 0 0 16), (.int .i64 r6)], [(.var 16 (.ri .i64 a7)), (.var 16 (.ri .i64 b8))], 0, [] => .br (spec_l2Before_l2 F a7 b8 r6).isSome (spec_l2Before_o2 a7 b8 ((spec_l2Before_l2 F a7 b8 r6).getD default)) .fail
  | _, _, _, _ => .fail⟩
theorem spec_l2Before_step2 (F : Nat) (a7 : List Int) (b8 : List Int) (r6 : Int) {R : Type} (k : Out → Option R) : stepS tt (spec_l2Before_tab F) (spec_l2Before_LS1 F) 70 (spec_l2Before_ls2 F) (loopAt 2 (bodyOf Try.f86)) (spec_l2Before_st2 a7 b8 r6) k = spec_l2Before_s2 F a7 b8 R r6 (fun s => k (.norm (spec_l2Before_st2 a7 b8 s))) (fun x => (spec_l2Before_o2 a7 b8 x).run k) := by kernel_rfl
theorem spec_l2Before_iter2 (F : Nat) (a7 : List Int) (b8 : List Int) {R : Type} (k : Out → Option R) : ∀ (n : Nat) (r6 : Int), iterS tt (spec_l2Before_tab F) (spec_l2Before_LS1 F) 70 (spec_l2Before_ls2 F) (loopAt 2 (bodyOf Try.f86)) n (spec_l2Before_st2 a7 b8 r6) k = loopC (spec_l2Before_s2 F a7 b8) n r6 (fun x => (spec_l2Before_o2 a7 b8 x).run k)
  | 0, r6 => rfl
  | n + 1, r6 => (iterS_succ tt (spec_l2Before_tab F) (spec_l2Before_LS1 F) 70 (spec_l2Before_ls2 F) (loopAt 2 (bodyOf Try.f86)) n (spec_l2Before_st2 a7 b8 r6) k).trans ((spec_l2Before_step2 F a7 b8 r6 (nextK (iterS tt (spec_l2Before_tab F) (spec_l2Before_LS1 F) 70 (spec_l2Before_ls2 F) (loopAt 2 (bodyOf Try.f86)) n) k)).trans (congrArg (fun kn => spec_l2Before_s2 F a7 b8 R r6 kn _) (funext (fun r6 => spec_l2Before_iter2 F a7 b8 k n r6))))
theorem spec_l2Before_lok2 (F : Nat) : LoopOK Try.prog (loopAt 2 (bodyOf Try.f86)) (spec_l2Before_ls2 F) := by
  refine loopOK_of mixed ttok deep (spec_l2Before_tabok F) (loopsOK_at (spec_l2Before_lsok1 F) 2) (fuel := 70) fun R vals mem np killed k x h => ?_
  simp only [spec_l2Before_ls2] at h
  split at h
  · rename_i r6 a7 b8
    simp only [GT.run] at h
    have hc := (cond_noneL h).1
    replace h := (cond_noneL h).2
    refine ⟨F, (spec_l2Before_iter2 F a7 b8 k F r6).trans ((loopC_use (spec_l2Before_s2_nat F a7 b8) hc _).trans h)⟩
  · simp only [GT.run] at h
    cases h
noncomputable def spec_l2Before_LS2 (F : Nat) : LT := (2, spec_l2Before_ls2 F) :: spec_l2Before_LS1 F
theorem spec_l2Before_lsok2 (F : Nat) : LoopsOK Try.prog (spec_l2Before_LS2 F) (bodyOf Try.f86) := loopsOK_cons spec_l2Before_keys (spec_l2Before_lok2 F) (spec_l2Before_lsok1 F)
theorem spec_l2Before_run (F : Nat) (a0 : List Int) (b1 : List Int) : runS tt (spec_l2Before_tab F) (spec_l2Before_LS2 F) [] [] Try.f86 (bodyOf Try.f86) 70 [(.ints 16 a0), (.ints 16 b1)] [] = spec_l2Before_c _ F a0 b1 (fun r => some ⟨(.bool r), [], []⟩) := by kernel_rfl
def spec_l2Before_ent (F : Nat) : Ent := ⟨[], .quiet, fun args mem => match args, mem with
  | [(.ints 16 a0), (.ints 16 b1)], [] => some ((spec_l2Before_p F a0 b1).isSome, ⟨(.bool ((spec_l2Before_p F a0 b1).getD default)), [], []⟩)
  | _, _ => none⟩
theorem spec_l2Before_fok : FunOK Try.prog 86 := funOK Try.func86 (by kernel_rfl) rfl
theorem spec_l2Before_meets (F : Nat) : Meets Try.prog 86 (spec_l2Before_ent F) := by
  refine meets_of_runS mixed ttok deep (spec_l2Before_tabok F) Try.func86 (body_some rfl) (spec_l2Before_lsok2 F) fun args mem hfit ret h => ?_
  clear hfit
  simp only [spec_l2Before_ent] at h
  split at h
  · rename_i a0 b1
    simp only [Option.some.injEq, Prod.mk.injEq] at h
    obtain ⟨hc, rfl⟩ := h
    exact ⟨[], [], 70, _, (spec_l2Before_run F a0 b1).trans ((spec_l2Before_cp _ F a0 b1 _).trans (bind_use hc _)), rfl, rfl, rfl⟩
  · cases h

/-! loop.example/g01194/spec.l3Add -/
noncomputable def spec_l3Add_tab (F : Nat) : Tab := [(86, (spec_l2Before_ent F))]
theorem spec_l3Add_tabok (F : Nat) : TabOK Try.prog (spec_l3Add_tab F) := (tab_cons (spec_l2Before_meets F) spec_l2Before_fok tab_nil)
noncomputable def spec_l3Add_LS0 (F : Nat) : LT := []
theorem spec_l3Add_lsok0 (F : Nat) : LoopsOK Try.prog (spec_l3Add_LS0 F) (bodyOf Try.f68) := loopsOK_nil
theorem spec_l3Add_keys : keysOK (bodyOf Try.f68) = true := by kernel_rfl
def spec_l3Add_st2 (all0 : List (List Int)) (b5 : List Int) (n4 : Int) : St := ⟨expand 45 0 [0, 3, 5] [(.rr 16 all0), (.ptr 0 0 0 16), (.int .i64 n4)], [(.var 16 (.ri .i64 b5))], 0, []⟩
def spec_l3Add_o2 (all0 : List (List Int)) (b5 : List Int) (x : Int) : GT := (.out (.exit 0 ⟨expand 45 0 [0, 3, 5] [(.rr 16 all0), (.ptr 0 0 0 16), (.int .i64 x)], [(.var 16 (.ri .i64 b5))], 0, []⟩))
def spec_l3Add_ls2 (F : Nat) : LoopS := ⟨45, [0, 3, 5], [], [0, 3, 5], [], [4], [], [], fun vals mem np killed => match vals, mem, np, killed with
  | [(.rr 16 all0), (.ptr 0 0 0 16), (.int .i64 n4)], [(.var 16 (.ri .i64 b5))], 0, [] => .br (spec_l3Add_l2 F all0 b5 n4).isSome (spec_l3Add_o2 all0 b5 ((spec_l3Add_l2 F all0 b5 n4).getD default)) .fail
  | _, _, _, _ => .fail⟩
theorem spec_l3Add_step2 (F : Nat) (all0 : List (List Int)) (b5 : List Int) (n4 : Int) {R : Type} (k : Out → Option R) : stepS tt (spec_l3Add_tab F) (spec_l3Add_LS0 F) 70 (spec_l3Add_ls2 F) (loopAt 2 (bodyOf Try.f68)) (spec_l3Add_st2 all0 b5 n4) k = spec_l3Add_s2 F all0 b5 R n4 (fun s => k (.norm (spec_l3Add_st2 all0 b5 s))) (fun x => (spec_l3Add_o2 all0 b5 x).run k) := by kernel_rfl
theorem spec_l3Add_iter2 (F : Nat) (all0 : List (List Int)) (b5 : List Int) {R : Type} (k : Out → Option R) : ∀ (n : Nat) (n4 : Int), iterS tt (spec_l3Add_tab F) (spec_l3Add_LS0 F) 70 (spec_l3Add_ls2 F) (loopAt 2 (bodyOf Try.f68)) n (spec_l3Add_st2 all0 b5 n4) k = loopC (spec_l3Add_s2 F all0 b5) n n4 (fun x => (spec_l3Add_o2 all0 b5 x).run k)
  | 0, n4 => rfl
  | n + 1, n4 => (iterS_succ tt (spec_l3Add_tab F) (spec_l3Add_LS0 F) 70 (spec_l3Add_ls2 F) (loopAt 2 (bodyOf Try.f68)) n (spec_l3Add_st2 all0 b5 n4) k).trans ((spec_l3Add_step2 F all0 b5 n4 (nextK (iterS tt (spec_l3Add_tab F) (spec_l3Add_LS0 F) 70 (spec_l3Add_ls2 F) (loopAt 2 (bodyOf Try.f68)) n) k)).trans (congrArg (fun kn => spec_l3Add_s2 F all0 b5 R n4 kn _) (funext (fun n4 => spec_l3Add_iter2 F all0 b5 k n n4))))
theorem spec_l3Add_lok2 (F : Nat) : LoopOK Try.prog (loopAt 2 (bodyOf Try.f68)) (spec_l3Add_ls2 F) := by
  refine loopOK_of mixed ttok deep (spec_l3Add_tabok F) (loopsOK_at (spec_l3Add_lsok0 F) 2) (fuel := 70) fun R vals mem np killed k x h => ?_
  simp only [spec_l3Add_ls2] at h
  split at h
  · rename_i all0 n4 b5
    simp only [GT.run] at h
    have hc := (cond_noneL h).1
    replace h := (cond_noneL h).2
    refine ⟨F, (spec_l3Add_iter2 F all0 b5 k F n4).trans ((loopC_use (spec_l3Add_s2_nat F all0 b5) hc _).trans h)⟩
  · simp only [GT.run] at h
    cases h
noncomputable def spec_l3Add_LS1 (F : Nat) : LT := (2, spec_l3Add_ls2 F) :: spec_l3Add_LS0 F
theorem spec_l3Add_lsok1 (F : Nat) : LoopsOK Try.prog (spec_l3Add_LS1 F) (bodyOf Try.f68) := loopsOK_cons spec_l3Add_keys (spec_l3Add_lok2 F) (spec_l3Add_lsok0 F)
theorem spec_l3Add_run (F : Nat) (all0 : List (List Int)) (b1 : List Int) : runS tt (spec_l3Add_tab F) (spec_l3Add_LS1 F) [⟨4, 0, (.tup [])⟩] [] Try.f68 (bodyOf Try.f68) 70 [(.rr 16 all0), (.ints 16 b1)] [] = spec_l3Add_c _ F all0 b1 (fun r => some ⟨(.rr 16 r), [], []⟩) := by kernel_rfl
def spec_l3Add_ent (F : Nat) : Ent := ⟨[], .quiet, fun args mem => match args, mem with
  | [(.rr 16 all0), (.ints 16 b1)], [] => some ((spec_l3Add_p F all0 b1).isSome, ⟨(.rr 16 ((spec_l3Add_p F all0 b1).getD default)), [], []⟩)
  | _, _ => none⟩
theorem spec_l3Add_fok : FunOK Try.prog 68 := funOK Try.func68 (by kernel_rfl) rfl
theorem spec_l3Add_meets (F : Nat) : Meets Try.prog 68 (spec_l3Add_ent F) := by
  refine meets_of_runS mixed ttok deep (spec_l3Add_tabok F) Try.func68 (body_some rfl) (spec_l3Add_lsok1 F) fun args mem hfit ret h => ?_
  clear hfit
  simp only [spec_l3Add_ent] at h
  split at h
  · rename_i all0 b1
    simp only [Option.some.injEq, Prod.mk.injEq] at h
    obtain ⟨hc, rfl⟩ := h
    exact ⟨[⟨4, 0, (.tup [])⟩], [], 70, _, (spec_l3Add_run F all0 b1).trans ((spec_l3Add_cp _ F all0 b1 _).trans (bind_use hc _)), rfl, rfl, rfl⟩
  · cases h

/-! loop.example/g01194/spec.l5Next -/
noncomputable def spec_l5Next_tab (F : Nat) : Tab := [(29, (spec_l2Slide_ent F)), (68, (spec_l3Add_ent F))]
theorem spec_l5Next_tabok (F : Nat) : TabOK Try.prog (spec_l5Next_tab F) := (tab_cons (spec_l2Slide_meets F) spec_l2Slide_fok (tab_cons (spec_l3Add_meets F) spec_l3Add_fok tab_nil))
noncomputable def spec_l5Next_LS0 (F : Nat) : LT := []
theorem spec_l5Next_lsok0 (F : Nat) : LoopsOK Try.prog (spec_l5Next_LS0 F) (bodyOf Try.f47) := loopsOK_nil
theorem spec_l5Next_keys : keysOK (bodyOf Try.f47) = true := by kernel_rfl
def spec_l5Next_st6 (all0 : List (List Int)) (i2 : Int) (out1 : List (List Int)) (d3 : Int) : St := ⟨expand 32 0 [0, 3, 4, 5] [(.rr 16 all0), (.rr 16 out1), (.int .i64 i2), (.int .i64 d3)], [], 0, []⟩
def spec_l5Next_o6 (all0 : List (List Int)) (i2 : Int) (x : List (List Int)) : GT := (.out (.exit 2 ⟨expand 32 0 [0, 3, 4] [(.rr 16 all0), (.rr 16 x), (.int .i64 i2)], [], 0, []⟩))
def spec_l5Next_ls6 (F : Nat) : LoopS := ⟨32, [0, 3, 4, 5], [], [0, 3, 4], [], [2], [], [], fun vals mem np killed => match vals, mem, np, killed with
  | [(.rr 16 all0), (.rr 16 out1), (.int .i64 i2), (.int .i64 d3)], [], 0, [] => .br (spec_l5Next_l6 F all0 i2 out1 d3).isSome (spec_l5Next_o6 all0 i2 ((spec_l5Next_l6 F all0 i2 out1 d3).getD default)) .fail
  | _, _, _, _ => .fail⟩
theorem spec_l5Next_step6 (F : Nat) (all0 : List (List Int)) (i2 : Int) (out1 : List (List Int)) (d3 : Int) {R : Type} (k : Out → Option R) : stepS tt (spec_l5Next_tab F) (spec_l5Next_LS0 F) 70 (spec_l5Next_ls6 F) (loopAt 6 (bodyOf Try.f47)) (spec_l5Next_st6 all0 i2 out1 d3) k = spec_l5Next_s6 F all0 i2 R (out1, d3) (fun s => k (.norm (spec_l5Next_st6 all0 i2 s.1 s.2))) (fun x => (spec_l5Next_o6 all0 i2 x).run k) := by kernel_rfl
theorem spec_l5Next_iter6 (F : Nat) (all0 : List (List Int)) (i2 : Int) {R : Type} (k : Out → Option R) : ∀ (n : Nat) (out1 : List (List Int)) (d3 : Int), iterS tt (spec_l5Next_tab F) (spec_l5Next_LS0 F) 70 (spec_l5Next_ls6 F) (loopAt 6 (bodyOf Try.f47)) n (spec_l5Next_st6 all0 i2 out1 d3) k = loopC (spec_l5Next_s6 F all0 i2) n (out1, d3) (fun x => (spec_l5Next_o6 all0 i2 x).run k)
  | 0, out1, d3 => rfl
  | n + 1, out1, d3 => (iterS_succ tt (spec_l5Next_tab F) (spec_l5Next_LS0 F) 70 (spec_l5Next_ls6 F) (loopAt 6 (bodyOf Try.f47)) n (spec_l5Next_st6 all0 i2 out1 d3) k).trans ((spec_l5Next_step6 F all0 i2 out1 d3 (nextK (iterS tt (spec_l5Next_tab F) (spec_l5Next_LS0 F) 70 (spec_l5Next_ls6 F) (loopAt 6 (bodyOf Try.f47)) n) k)).trans (congrArg (fun kn => spec_l5Next_s6 F all0 i2 R (out1, d3) kn _) (funext (fun ⟨out1, d3⟩ => spec_l5Next_iter6 F all0 i2 k n out1 d3))))
theorem spec_l5Next_lok6 (F : Nat) : LoopOK Try.prog (loopAt 6 (bodyOf Try.f47)) (spec_l5Next_ls6 F) := by
  refine loopOK_of mixed ttok deep (spec_l5Next_tabok F) (loopsOK_at (spec_l5Next_lsok0 F) 6) (fuel := 70) fun R vals mem np killed k x h => ?_
  simp only [spec_l5Next_ls6] at h
  split at h
  · rename_i all0 out1 i2 d3
    simp only [GT.run] at h
    have hc := (cond_noneL h).1
    replace h := (cond_noneL h).2
    refine ⟨F, (spec_l5Next_iter6 F all0 i2 k F out1 d3).trans ((loopC_use (spec_l5Next_s6_nat F all0 i2) hc _).trans h)⟩
  · simp only [GT.run] at h
    cases h
noncomputable def spec_l5Next_LS1 (F : Nat) : LT := (6, spec_l5Next_ls6 F) :: spec_l5Next_LS0 F
theorem spec_l5Next_lsok1 (F : Nat) : LoopsOK Try.prog (spec_l5Next_LS1 F) (bodyOf Try.f47) := loopsOK_cons spec_l5Next_keys (spec_l5Next_lok6 F) (spec_l5Next_lsok0 F)
def spec_l5Next_st3 (all0 : List (List Int)) (out1 : List (List Int)) (i2 : Int) : St := ⟨expand 32 0 [0, 3, 4] [(.rr 16 all0), (.rr 16 out1), (.int .i64 i2)], [], 0, []⟩
def spec_l5Next_o3 (all0 : List (List Int)) (x : List (List Int)) : GT := (.out (.exit 0 ⟨expand 32 0 [3] [(.rr 16 x)], [], 0, []⟩))
def spec_l5Next_ls3 (F : Nat) : LoopS := ⟨32, [0, 3, 4], [], [3], [], [2], [], [], fun vals mem np killed => match vals, mem, np, killed with
  | [(.rr 16 all0), (.rr 16 out1), (.int .i64 i2)], [], 0, [] => .br (spec_l5Next_l3 F all0 out1 i2).isSome (spec_l5Next_o3 all0 ((spec_l5Next_l3 F all0 out1 i2).getD default)) .fail
  | _, _, _, _ => .fail⟩
theorem spec_l5Next_step3 (F : Nat) (all0 : List (List Int)) (out1 : List (List Int)) (i2 : Int) {R : Type} (k : Out → Option R) : stepS tt (spec_l5Next_tab F) (spec_l5Next_LS1 F) 70 (spec_l5Next_ls3 F) (loopAt 3 (bodyOf Try.f47)) (spec_l5Next_st3 all0 out1 i2) k = spec_l5Next_s3 F all0 R (out1, i2) (fun s => k (.norm (spec_l5Next_st3 all0 s.1 s.2))) (fun x => (spec_l5Next_o3 all0 x).run k) := by kernel_rfl
theorem spec_l5Next_iter3 (F : Nat) (all0 : List (List Int)) {R : Type} (k : Out → Option R) : ∀ (n : Nat) (out1 : List (List Int)) (i2 : Int), iterS tt (spec_l5Next_tab F) (spec_l5Next_LS1 F) 70 (spec_l5Next_ls3 F) (loopAt 3 (bodyOf Try.f47)) n (spec_l5Next_st3 all0 out1 i2) k = loopC (spec_l5Next_s3 F all0) n (out1, i2) (fun x => (spec_l5Next_o3 all0 x).run k)
  | 0, out1, i2 => rfl
  | n + 1, out1, i2 => (iterS_succ tt (spec_l5Next_tab F) (spec_l5Next_LS1 F) 70 (spec_l5Next_ls3 F) (loopAt 3 (bodyOf Try.f47)) n (spec_l5Next_st3 all0 out1 i2) k).trans ((spec_l5Next_step3 F all0 out1 i2 (nextK (iterS tt (spec_l5Next_tab F) (spec_l5Next_LS1 F) 70 (spec_l5Next_ls3 F) (loopAt 3 (bodyOf Try.f47)) n) k)).trans (congrArg (fun kn => spec_l5Next_s3 F all0 R (out1, i2) kn _) (funext (fun ⟨out1, i2⟩ => spec_l5Next_iter3 F all0 k n out1 i2))))
theorem spec_l5Next_lok3 (F : Nat) : LoopOK Try.prog (loopAt 3 (bodyOf Try.f47)) (spec_l5Next_ls3 F) := by
  refine loopOK_of mixed ttok deep (spec_l5Next_tabok F) (loopsOK_at (spec_l5Next_lsok1 F) 3) (fuel := 70) fun R vals mem np killed k x h => ?_
  simp only [spec_l5Next_ls3] at h
  split at h
  · rename_i all0 out1 i2
    simp only [GT.run] at h
    have hc := (cond_noneL h).1
    replace h := (cond_noneL h).2
    refine ⟨F, (spec_l5Next_iter3 F all0 k F out1 i2).trans ((loopC_use (spec_l5Next_s3_nat F all0) hc _).trans h)⟩
  · simp only [GT.run] at h
    cases h
noncomputable def spec_l5Next_LS2 (F : Nat) : LT := (3, spec_l5Next_ls3 F) :: spec_l5Next_LS1 F
theorem spec_l5Next_lsok2 (F : Nat) : LoopsOK Try.prog (spec_l5Next_LS2 F) (bodyOf Try.f47) := loopsOK_cons spec_l5Next_keys (spec_l5Next_lok3 F) (spec_l5Next_lsok1 F)
theorem spec_l5Next_run (F : Nat) (all0 : List (List Int)) : runS tt (spec_l5Next_tab F) (spec_l5Next_LS2 F) [] [] Try.f47 (bodyOf Try.f47) 70 [(.rr 16 all0)] [] = spec_l5Next_c _ F all0 (fun r => some ⟨(.rr 16 r), [], []⟩) := by kernel_rfl
def spec_l5Next_ent (F : Nat) : Ent := ⟨[], .quiet, fun args mem => match args, mem with
  | [(.rr 16 all0)], [] => some ((spec_l5Next_p F all0).isSome, ⟨(.rr 16 ((spec_l5Next_p F all0).getD default)), [], []⟩)
  | _, _ => none⟩
theorem spec_l5Next_fok : FunOK Try.prog 47 := funOK Try.func47 (by kernel_rfl) rfl
theorem spec_l5Next_meets (F : Nat) : Meets Try.prog 47 (spec_l5Next_ent F) := by
  refine meets_of_runS mixed ttok deep (spec_l5Next_tabok F) Try.func47 (body_some rfl) (spec_l5Next_lsok2 F) fun args mem hfit ret h => ?_
  clear hfit
  simp only [spec_l5Next_ent] at h
  split at h
  · rename_i all0
    simp only [Option.some.injEq, Prod.mk.injEq] at h
    obtain ⟨hc, rfl⟩ := h
    exact ⟨[], [], 70, _, (spec_l5Next_run F all0).trans ((spec_l5Next_cp _ F all0 _).trans (bind_use hc _)), rfl, rfl, rfl⟩
  · cases h

/-! loop.example/g01194/spec.l5Reach -/
noncomputable def spec_l5Reach_tab (F : Nat) : Tab := [(47, (spec_l5Next_ent F))]
theorem spec_l5Reach_tabok (F : Nat) : TabOK Try.prog (spec_l5Reach_tab F) := (tab_cons (spec_l5Next_meets F) spec_l5Next_fok tab_nil)
noncomputable def spec_l5Reach_LS0 (F : Nat) : LT := []
theorem spec_l5Reach_lsok0 (F : Nat) : LoopsOK Try.prog (spec_l5Reach_LS0 F) (bodyOf Try.f28) := loopsOK_nil
theorem spec_l5Reach_keys : keysOK (bodyOf Try.f28) = true := by kernel_rfl
def spec_l5Reach_st3 (n0 : Int) (all1 : List (List Int)) (i2 : Int) : St := ⟨expand 17 0 [1, 5, 6] [(.int .i64 n0), (.rr 16 all1), (.int .i64 i2)], [], 0, []⟩
def spec_l5Reach_o3 (n0 : Int) (x : List (List Int)) : GT := (.out (.exit 0 ⟨expand 17 0 [5] [(.rr 16 x)], [], 0, []⟩))
def spec_l5Reach_ls3 (F : Nat) : LoopS := ⟨17, [1, 5, 6], [⟨5, 0, (.tup [])⟩], [5], [], [4], [], [], fun vals mem np killed => match vals, mem, np, killed with
  | [(.int .i64 n0), (.rr 16 all1), (.int .i64 i2)], [], 0, [] => .br (spec_l5Reach_l3 F n0 all1 i2).isSome (spec_l5Reach_o3 n0 ((spec_l5Reach_l3 F n0 all1 i2).getD default)) .fail
  | _, _, _, _ => .fail⟩
theorem spec_l5Reach_step3 (F : Nat) (n0 : Int) (all1 : List (List Int)) (i2 : Int) {R : Type} (k : Out → Option R) : stepS tt (spec_l5Reach_tab F) (spec_l5Reach_LS0 F) 70 (spec_l5Reach_ls3 F) (loopAt 3 (bodyOf Try.f28)) (spec_l5Reach_st3 n0 all1 i2) k = spec_l5Reach_s3 F n0 R (all1, i2) (fun s => k (.norm (spec_l5Reach_st3 n0 s.1 s.2))) (fun x => (spec_l5Reach_o3 n0 x).run k) := by kernel_rfl
theorem spec_l5Reach_iter3 (F : Nat) (n0 : Int) {R : Type} (k : Out → Option R) : ∀ (n : Nat) (all1 : List (List Int)) (i2 : Int), iterS tt (spec_l5Reach_tab F) (spec_l5Reach_LS0 F) 70 (spec_l5Reach_ls3 F) (loopAt 3 (bodyOf Try.f28)) n (spec_l5Reach_st3 n0 all1 i2) k = loopC (spec_l5Reach_s3 F n0) n (all1, i2) (fun x => (spec_l5Reach_o3 n0 x).run k)
  | 0, all1, i2 => rfl
  | n + 1, all1, i2 => (iterS_succ tt (spec_l5Reach_tab F) (spec_l5Reach_LS0 F) 70 (spec_l5Reach_ls3 F) (loopAt 3 (bodyOf Try.f28)) n (spec_l5Reach_st3 n0 all1 i2) k).trans ((spec_l5Reach_step3 F n0 all1 i2 (nextK (iterS tt (spec_l5Reach_tab F) (spec_l5Reach_LS0 F) 70 (spec_l5Reach_ls3 F) (loopAt 3 (bodyOf Try.f28)) n) k)).trans (congrArg (fun kn => spec_l5Reach_s3 F n0 R (all1, i2) kn _) (funext (fun ⟨all1, i2⟩ => spec_l5Reach_iter3 F n0 k n all1 i2))))
theorem spec_l5Reach_lok3 (F : Nat) : LoopOK Try.prog (loopAt 3 (bodyOf Try.f28)) (spec_l5Reach_ls3 F) := by
  refine loopOK_of mixed ttok deep (spec_l5Reach_tabok F) (loopsOK_at (spec_l5Reach_lsok0 F) 3) (fuel := 70) fun R vals mem np killed k x h => ?_
  simp only [spec_l5Reach_ls3] at h
  split at h
  · rename_i n0 all1 i2
    simp only [GT.run] at h
    have hc := (cond_noneL h).1
    replace h := (cond_noneL h).2
    refine ⟨F, (spec_l5Reach_iter3 F n0 k F all1 i2).trans ((loopC_use (spec_l5Reach_s3_nat F n0) hc _).trans h)⟩
  · simp only [GT.run] at h
    cases h
noncomputable def spec_l5Reach_LS1 (F : Nat) : LT := (3, spec_l5Reach_ls3 F) :: spec_l5Reach_LS0 F
theorem spec_l5Reach_lsok1 (F : Nat) : LoopsOK Try.prog (spec_l5Reach_LS1 F) (bodyOf Try.f28) := loopsOK_cons spec_l5Reach_keys (spec_l5Reach_lok3 F) (spec_l5Reach_lsok0 F)
theorem spec_l5Reach_run (F : Nat) (b0 : List Int) (n1 : Int) : runS tt (spec_l5Reach_tab F) (spec_l5Reach_LS1 F) [] [] Try.f28 (bodyOf Try.f28) 70 [(.ints 16 b0), (.int .i64 n1)] [] = spec_l5Reach_c _ F b0 n1 (fun r => some ⟨(.rr 16 r), [], []⟩) := by kernel_rfl
def spec_l5Reach_ent (F : Nat) : Ent := ⟨[], .quiet, fun args mem => match args, mem with
  | [(.ints 16 b0), (.int .i64 n1)], [] => some ((spec_l5Reach_p F b0 n1).isSome, ⟨(.rr 16 ((spec_l5Reach_p F b0 n1).getD default)), [], []⟩)
  | _, _ => none⟩
theorem spec_l5Reach_fok : FunOK Try.prog 28 := funOK Try.func28 (by kernel_rfl) rfl
theorem spec_l5Reach_meets (F : Nat) : Meets Try.prog 28 (spec_l5Reach_ent F) := by
  refine meets_of_runS mixed ttok deep (spec_l5Reach_tabok F) Try.func28 (body_some rfl) (spec_l5Reach_lsok1 F) fun args mem hfit ret h => ?_
  clear hfit
  simp only [spec_l5Reach_ent] at h
  split at h
  · rename_i b0 n1
    simp only [Option.some.injEq, Prod.mk.injEq] at h
    obtain ⟨hc, rfl⟩ := h
    exact ⟨[], [], 70, _, (spec_l5Reach_run F b0 n1).trans ((spec_l5Reach_cp _ F b0 n1 _).trans (bind_use hc _)), rfl, rfl, rfl⟩
  · cases h

/-! loop.example/g01194/spec.ReachBySlides -/
noncomputable def spec_ReachBySlides_tab (F : Nat) : Tab := [(26, (spec_l2Board_ent F)), (27, (spec_l1In_ent F)), (28, (spec_l5Reach_ent F))]
theorem spec_ReachBySlides_tabok (F : Nat) : TabOK Try.prog (spec_ReachBySlides_tab F) := (tab_cons (spec_l2Board_meets F) spec_l2Board_fok (tab_cons (spec_l1In_meets F) spec_l1In_fok (tab_cons (spec_l5Reach_meets F) spec_l5Reach_fok tab_nil)))
noncomputable def spec_ReachBySlides_LS0 (F : Nat) : LT := []
theorem spec_ReachBySlides_lsok0 (F : Nat) : LoopsOK Try.prog (spec_ReachBySlides_LS0 F) (bodyOf Try.f7) := loopsOK_nil
theorem spec_ReachBySlides_run (F : Nat) (b0 : List Int) (n1 : Int) : runS tt (spec_ReachBySlides_tab F) (spec_ReachBySlides_LS0 F) [⟨4, 0, (.tup [])⟩] [] Try.f7 (bodyOf Try.f7) 70 [(.ints 16 b0), (.int .i64 n1)] [] = spec_ReachBySlides_c _ F b0 n1 (fun r => some ⟨(.tup [(.rr 16 r.1), (.bool r.2)]), [], []⟩) := by kernel_rfl
def spec_ReachBySlides_ent (F : Nat) : Ent := ⟨[], .quiet, fun args mem => match args, mem with
  | [(.ints 16 b0), (.int .i64 n1)], [] => some ((spec_ReachBySlides_p F b0 n1).isSome, ⟨(.tup [(.rr 16 ((spec_ReachBySlides_p F b0 n1).getD default).1), (.bool ((spec_ReachBySlides_p F b0 n1).getD default).2)]), [], []⟩)
  | _, _ => none⟩
theorem spec_ReachBySlides_fok : FunOK Try.prog 7 := funOK Try.func7 (by kernel_rfl) rfl
theorem spec_ReachBySlides_meets (F : Nat) : Meets Try.prog 7 (spec_ReachBySlides_ent F) := by
  refine meets_of_runS mixed ttok deep (spec_ReachBySlides_tabok F) Try.func7 (body_some rfl) (spec_ReachBySlides_lsok0 F) fun args mem hfit ret h => ?_
  clear hfit
  simp only [spec_ReachBySlides_ent] at h
  split at h
  · rename_i b0 n1
    simp only [Option.some.injEq, Prod.mk.injEq] at h
    obtain ⟨hc, rfl⟩ := h
    exact ⟨[⟨4, 0, (.tup [])⟩], [], 70, _, (spec_ReachBySlides_run F b0 n1).trans ((spec_ReachBySlides_cp _ F b0 n1 _).trans (bind_use hc _)), rfl, rfl, rfl⟩
  · cases h

/-! loop.example/g01194/laws.vCut -/
noncomputable def laws_vCut_tab (F : Nat) : Tab := []
theorem laws_vCut_tabok (F : Nat) : TabOK Try.prog (laws_vCut_tab F) := tab_nil
noncomputable def laws_vCut_LS0 (F : Nat) : LT := []
theorem laws_vCut_lsok0 (F : Nat) : LoopsOK Try.prog (laws_vCut_LS0 F) (bodyOf Try.f9) := loopsOK_nil
theorem laws_vCut_run (F : Nat) (code0 : List Int) (n1 : Int) : runS tt (laws_vCut_tab F) (laws_vCut_LS0 F) [] [] Try.f9 (bodyOf Try.f9) 70 [(.ri .u8 code0), (.int .i64 n1)] [] = laws_vCut_c _ code0 n1 (fun r => some ⟨(.sl 0 0 (List.length r)), [(.vec 5 (.ri .u8 r))], []⟩) := by kernel_rfl
def laws_vCut_ent (F : Nat) : Ent := ⟨[], .fresh, fun args mem => match args, mem with
  | [(.ri .u8 code0), (.int .i64 n1)], [] => some ((laws_vCut_p code0 n1).isSome, ⟨(.sl 0 0 (List.length ((laws_vCut_p code0 n1).getD default))), [(.vec 5 (.ri .u8 ((laws_vCut_p code0 n1).getD default)))], []⟩)
  | _, _ => none⟩
theorem laws_vCut_fok : FunOK Try.prog 9 := funOK Try.func9 (by kernel_rfl) rfl
theorem laws_vCut_meets (F : Nat) : Meets Try.prog 9 (laws_vCut_ent F) := by
  refine meets_of_runS mixed ttok deep (laws_vCut_tabok F) Try.func9 (body_some rfl) (laws_vCut_lsok0 F) fun args mem hfit ret h => ?_
  clear hfit
  simp only [laws_vCut_ent] at h
  split at h
  · rename_i code0 n1
    simp only [Option.some.injEq, Prod.mk.injEq] at h
    obtain ⟨hc, rfl⟩ := h
    exact ⟨[], [], 70, _, (laws_vCut_run F code0 n1).trans ((laws_vCut_cp _ code0 n1 _).trans (bind_use hc _)), rfl, rfl, rfl⟩
  · cases h

/-! loop.example/g01194/spec.DrawFewestSlides -/
noncomputable def spec_DrawFewestSlides_tab (F : Nat) : Tab := [(19, (spec_l1Cur_board_ent F)), (21, (spec_l1Cur_pick_ent F)), (26, (spec_l2Board_ent F)), (29, (spec_l2Slide_ent F)), (30, (spec_l1Cur_one_ent F))]
theorem spec_DrawFewestSlides_tabok (F : Nat) : TabOK Try.prog (spec_DrawFewestSlides_tab F) := (tab_cons (spec_l1Cur_board_meets F) spec_l1Cur_board_fok (tab_cons (spec_l1Cur_pick_meets F) spec_l1Cur_pick_fok (tab_cons (spec_l2Board_meets F) spec_l2Board_fok (tab_cons (spec_l2Slide_meets F) spec_l2Slide_fok (tab_cons (spec_l1Cur_one_meets F) spec_l1Cur_one_fok tab_nil)))))
noncomputable def spec_DrawFewestSlides_LS0 (F : Nat) : LT := []
theorem spec_DrawFewestSlides_lsok0 (F : Nat) : LoopsOK Try.prog (spec_DrawFewestSlides_LS0 F) (bodyOf Try.f8) := loopsOK_nil
theorem spec_DrawFewestSlides_keys : keysOK (bodyOf Try.f8) = true := by kernel_rfl
def spec_DrawFewestSlides_st5 (c18 : List Int) (a21 : List Int) (n15 : Int) (c19 : Int) (c20 : Int) (b22 : List Int) : St := ⟨expand 37 0 [2, 3, 4, 5, 6, 7] [(.ptr 0 0 0 16), (.ptr 1 0 0 16), (.ptr 2 0 0 3), (.ptr 3 0 0 16), (.ptr 4 0 0 16), (.int .i64 n15)], [(.var 16 (.ri .i64 [(0 : Int), (0 : Int), (0 : Int), (0 : Int), (0 : Int), (0 : Int), (0 : Int), (0 : Int), (0 : Int), (0 : Int), (0 : Int), (0 : Int), (0 : Int), (0 : Int), (0 : Int), (0 : Int)])), (.var 16 (.ri .i64 [(0 : Int), (0 : Int), (0 : Int), (0 : Int), (0 : Int), (0 : Int), (0 : Int), (0 : Int), (0 : Int), (0 : Int), (0 : Int), (0 : Int), (0 : Int), (0 : Int), (0 : Int), (0 : Int)])), (.var 3 (.rv [(.ri .u8 c18), (.int .i64 c19), (.int .u64 c20)])), (.var 16 (.ri .i64 a21)), (.var 16 (.ri .i64 b22))], 0, []⟩
def spec_DrawFewestSlides_o5 (c18 : List Int) (a21 : List Int) (x : Int × Int × List Int) : GT := (.out (.exit 0 ⟨expand 37 0 [2, 3, 4, 5, 6] [(.ptr 0 0 0 16), (.ptr 1 0 0 16), (.ptr 2 0 0 3), (.ptr 3 0 0 16), (.ptr 4 0 0 16)], [(.var 16 (.ri .i64 [(0 : Int), (0 : Int), (0 : Int), (0 : Int), (0 : Int), (0 : Int), (0 : Int), (0 : Int), (0 : Int), (0 : Int), (0 : Int), (0 : Int), (0 : Int), (0 : Int), (0 : Int), (0 : Int)])), (.var 16 (.ri .i64 [(0 : Int), (0 : Int), (0 : Int), (0 : Int), (0 : Int), (0 : Int), (0 : Int), (0 : Int), (0 : Int), (0 : Int), (0 : Int), (0 : Int), (0 : Int), (0 : Int), (0 : Int), (0 : Int)])), (.var 3 (.rv [(.ri .u8 c18), (.int .i64 x.1), (.int .u64 x.2.1)])), (.var 16 (.ri .i64 a21)), (.var 16 (.ri .i64 x.2.2))], 0, []⟩))
def spec_DrawFewestSlides_ls5 (F : Nat) : LoopS := ⟨37, [2, 3, 4, 5, 6, 7], [], [2, 3, 4, 5, 6], [], [2, 3], [], [], fun vals mem np killed => match vals, mem, np, killed with
  | [(.ptr 0 0 0 16), (.ptr 1 0 0 16), (.ptr 2 0 0 3), (.ptr 3 0 0 16), (.ptr 4 0 0 16), (.int .i64 n15)], [(.var 16 (.ri .i64 q_t216)), (.var 16 (.ri .i64 q_t317)), (.var 3 (.rv [(.ri .u8 c18), (.int .i64 c19), (.int .u64 c20)])), (.var 16 (.ri .i64 a21)), (.var 16 (.ri .i64 b22))], 0, [] => .br ((q_t216 == ([(0 : Int), (0 : Int), (0 : Int), (0 : Int), (0 : Int), (0 : Int), (0 : Int), (0 : Int), (0 : Int), (0 : Int), (0 : Int), (0 : Int), (0 : Int), (0 : Int), (0 : Int), (0 : Int)] : List Int)) && ((q_t317 == ([(0 : Int), (0 : Int), (0 : Int), (0 : Int), (0 : Int), (0 : Int), (0 : Int), (0 : Int), (0 : Int), (0 : Int), (0 : Int), (0 : Int), (0 : Int), (0 : Int), (0 : Int), (0 : Int)] : List Int)) && (spec_DrawFewestSlides_l5 F c18 a21 n15 c19 c20 b22).isSome)) (spec_DrawFewestSlides_o5 c18 a21 ((spec_DrawFewestSlides_l5 F c18 a21 n15 c19 c20 b22).getD default)) .fail
  | _, _, _, _ => .fail⟩
theorem spec_DrawFewestSlides_step5 (F : Nat) (c18 : List Int) (a21 : List Int) (n15 : Int) (c19 : Int) (c20 : Int) (b22 : List Int) {R : Type} (k : Out → Option R) : stepS tt (spec_DrawFewestSlides_tab F) (spec_DrawFewestSlides_LS0 F) 70 (spec_DrawFewestSlides_ls5 F) (loopAt 5 (bodyOf Try.f8)) (spec_DrawFewestSlides_st5 c18 a21 n15 c19 c20 b22) k = spec_DrawFewestSlides_s5 F c18 a21 R (n15, c19, c20, b22) (fun s => k (.norm (spec_DrawFewestSlides_st5 c18 a21 s.1 s.2.1 s.2.2.1 s.2.2.2))) (fun x => (spec_DrawFewestSlides_o5 c18 a21 x).run k) := by kernel_rfl
theorem spec_DrawFewestSlides_iter5 (F : Nat) (c18 : List Int) (a21 : List Int) {R : Type} (k : Out → Option R) : ∀ (n : Nat) (n15 : Int) (c19 : Int) (c20 : Int) (b22 : List Int), iterS tt (spec_DrawFewestSlides_tab F) (spec_DrawFewestSlides_LS0 F) 70 (spec_DrawFewestSlides_ls5 F) (loopAt 5 (bodyOf Try.f8)) n (spec_DrawFewestSlides_st5 c18 a21 n15 c19 c20 b22) k = loopC (spec_DrawFewestSlides_s5 F c18 a21) n (n15, c19, c20, b22) (fun x => (spec_DrawFewestSlides_o5 c18 a21 x).run k)
  | 0, n15, c19, c20, b22 => rfl
  | n + 1, n15, c19, c20, b22 => (iterS_succ tt (spec_DrawFewestSlides_tab F) (spec_DrawFewestSlides_LS0 F) 70 (spec_DrawFewestSlides_ls5 F) (loopAt 5 (bodyOf Try.f8)) n (spec_DrawFewestSlides_st5 c18 a21 n15 c19 c20 b22) k).trans ((spec_DrawFewestSlides_step5 F c18 a21 n15 c19 c20 b22 (nextK (iterS tt (spec_DrawFewestSlides_tab F) (spec_DrawFewestSlides_LS0 F) 70 (spec_DrawFewestSlides_ls5 F) (loopAt 5 (bodyOf Try.f8)) n) k)).trans (congrArg (fun kn => spec_DrawFewestSlides_s5 F c18 a21 R (n15, c19, c20, b22) kn _) (funext (fun ⟨n15, c19, c20, b22⟩ => spec_DrawFewestSlides_iter5 F c18 a21 k n n15 c19 c20 b22))))
theorem spec_DrawFewestSlides_lok5 (F : Nat) : LoopOK Try.prog (loopAt 5 (bodyOf Try.f8)) (spec_DrawFewestSlides_ls5 F) := by
  refine loopOK_of mixed ttok deep (spec_DrawFewestSlides_tabok F) (loopsOK_at (spec_DrawFewestSlides_lsok0 F) 5) (fuel := 70) fun R vals mem np killed k x h => ?_
  simp only [spec_DrawFewestSlides_ls5] at h
  split at h
  · rename_i n15 q_t216 q_t317 c18 c19 c20 a21 b22
    simp only [GT.run] at h
    have hc := (cond_noneL h).1
    replace h := (cond_noneL h).2
    have hg := (and_split hc).1
    replace hc := (and_split hc).2
    obtain rfl := beq_li hg
    have hg := (and_split hc).1
    replace hc := (and_split hc).2
    obtain rfl := beq_li hg
    refine ⟨F, (spec_DrawFewestSlides_iter5 F c18 a21 k F n15 c19 c20 b22).trans ((loopC_use (spec_DrawFewestSlides_s5_nat F c18 a21) hc _).trans h)⟩
  · simp only [GT.run] at h
    cases h
noncomputable def spec_DrawFewestSlides_LS1 (F : Nat) : LT := (5, spec_DrawFewestSlides_ls5 F) :: spec_DrawFewestSlides_LS0 F
theorem spec_DrawFewestSlides_lsok1 (F : Nat) : LoopsOK Try.prog (spec_DrawFewestSlides_LS1 F) (bodyOf Try.f8) := loopsOK_cons spec_DrawFewestSlides_keys (spec_DrawFewestSlides_lok5 F) (spec_DrawFewestSlides_lsok0 F)
theorem spec_DrawFewestSlides_run (F : Nat) (code0 : List Int) : runS tt (spec_DrawFewestSlides_tab F) (spec_DrawFewestSlides_LS1 F) [] [] Try.f8 (bodyOf Try.f8) 70 [(.ri .u8 code0)] [] = spec_DrawFewestSlides_c _ F code0 (fun r => some ⟨(.tup [(.ints 16 r.1), (.ints 16 r.2)]), [], []⟩) := by kernel_rfl
def spec_DrawFewestSlides_ent (F : Nat) : Ent := ⟨[], .quiet, fun args mem => match args, mem with
  | [(.ri .u8 code0)], [] => some ((spec_DrawFewestSlides_p F code0).isSome, ⟨(.tup [(.ints 16 ((spec_DrawFewestSlides_p F code0).getD default).1), (.ints 16 ((spec_DrawFewestSlides_p F code0).getD default).2)]), [], []⟩)
  | _, _ => none⟩
theorem spec_DrawFewestSlides_fok : FunOK Try.prog 8 := funOK Try.func8 (by kernel_rfl) rfl
theorem spec_DrawFewestSlides_meets (F : Nat) : Meets Try.prog 8 (spec_DrawFewestSlides_ent F) := by
  refine meets_of_runS mixed ttok deep (spec_DrawFewestSlides_tabok F) Try.func8 (body_some rfl) (spec_DrawFewestSlides_lsok1 F) fun args mem hfit ret h => ?_
  clear hfit
  simp only [spec_DrawFewestSlides_ent] at h
  split at h
  · rename_i code0
    simp only [Option.some.injEq, Prod.mk.injEq] at h
    obtain ⟨hc, rfl⟩ := h
    exact ⟨[], [], 70, _, (spec_DrawFewestSlides_run F code0).trans ((spec_DrawFewestSlides_cp _ F code0 _).trans (bind_use hc _)), rfl, rfl, rfl⟩
  · cases h

/-! loop.example/g01194/impl.cells -/
noncomputable def impl_cells_tab (F : Nat) : Tab := []
theorem impl_cells_tabok (F : Nat) : TabOK Try.prog (impl_cells_tab F) := tab_nil
noncomputable def impl_cells_LS0 (F : Nat) : LT := []
theorem impl_cells_lsok0 (F : Nat) : LoopsOK Try.prog (impl_cells_LS0 F) (bodyOf Try.f59) := loopsOK_nil
theorem impl_cells_run (F : Nat) : runS tt (impl_cells_tab F) (impl_cells_LS0 F) [] [] Try.f59 (bodyOf Try.f59) 70 [] [] = impl_cells_c _ (fun r => some ⟨(.sl 0 0 16), [(.vec 82 (.rr 2 [[(0 : Int), (0 : Int)], [(0 : Int), (1 : Int)], [(0 : Int), (2 : Int)], [(0 : Int), (3 : Int)], [(1 : Int), (0 : Int)], [(1 : Int), (1 : Int)], [(1 : Int), (2 : Int)], [(1 : Int), (3 : Int)], [(2 : Int), (0 : Int)], [(2 : Int), (1 : Int)], [(2 : Int), (2 : Int)], [(2 : Int), (3 : Int)], [(3 : Int), (0 : Int)], [(3 : Int), (1 : Int)], [(3 : Int), (2 : Int)], [(3 : Int), (3 : Int)]]))], []⟩) := by kernel_rfl
def impl_cells_ent (F : Nat) : Ent := ⟨[], .fresh, fun args mem => match args, mem with
  | [], [] => some (true, ⟨(.sl 0 0 16), [(.vec 82 (.rr 2 [[(0 : Int), (0 : Int)], [(0 : Int), (1 : Int)], [(0 : Int), (2 : Int)], [(0 : Int), (3 : Int)], [(1 : Int), (0 : Int)], [(1 : Int), (1 : Int)], [(1 : Int), (2 : Int)], [(1 : Int), (3 : Int)], [(2 : Int), (0 : Int)], [(2 : Int), (1 : Int)], [(2 : Int), (2 : Int)], [(2 : Int), (3 : Int)], [(3 : Int), (0 : Int)], [(3 : Int), (1 : Int)], [(3 : Int), (2 : Int)], [(3 : Int), (3 : Int)]]))], []⟩)
  | _, _ => none⟩
theorem impl_cells_fok : FunOK Try.prog 59 := funOK Try.func59 (by kernel_rfl) rfl
theorem impl_cells_meets (F : Nat) : Meets Try.prog 59 (impl_cells_ent F) := by
  refine meets_of_runS mixed ttok deep (impl_cells_tabok F) Try.func59 (body_some rfl) (impl_cells_lsok0 F) fun args mem hfit ret h => ?_
  clear hfit
  simp only [impl_cells_ent] at h
  split at h
  · simp only [Option.some.injEq, Prod.mk.injEq] at h
    obtain ⟨hc, rfl⟩ := h
    exact ⟨[], [], 70, _, (impl_cells_run F).trans (impl_cells_cv _ _), rfl, rfl, rfl⟩
  · cases h

/-! (loop.example/g01194/impl.Board).sum -/
noncomputable def impl_Board_sum_tab (F : Nat) : Tab := [(59, (impl_cells_ent F)), (61, (impl_Board_at_ent F)), (60, (impl_worth_ent F))]
theorem impl_Board_sum_tabok (F : Nat) : TabOK Try.prog (impl_Board_sum_tab F) := (tab_cons (impl_cells_meets F) impl_cells_fok (tab_cons (impl_Board_at_meets F) impl_Board_at_fok (tab_cons (impl_worth_meets F) impl_worth_fok tab_nil)))
noncomputable def impl_Board_sum_LS0 (F : Nat) : LT := []
theorem impl_Board_sum_lsok0 (F : Nat) : LoopsOK Try.prog (impl_Board_sum_LS0 F) (bodyOf Try.f37) := loopsOK_nil
theorem impl_Board_sum_run (F : Nat) (b0 : List Int) : runS tt (impl_Board_sum_tab F) (impl_Board_sum_LS0 F) [] [] Try.f37 (bodyOf Try.f37) 70 [(.ints 16 b0)] [] = impl_Board_sum_c _ b0 (fun r => some ⟨(.int .i64 r), [], []⟩) := by kernel_rfl
def impl_Board_sum_ent (F : Nat) : Ent := ⟨[], .quiet, fun args mem => match args, mem with
  | [(.ints 16 b0)], [] => some ((impl_Board_sum_p b0).isSome, ⟨(.int .i64 ((impl_Board_sum_p b0).getD default)), [], []⟩)
  | _, _ => none⟩
theorem impl_Board_sum_fok : FunOK Try.prog 37 := funOK Try.func37 (by kernel_rfl) rfl
theorem impl_Board_sum_meets (F : Nat) : Meets Try.prog 37 (impl_Board_sum_ent F) := by
  refine meets_of_runS mixed ttok deep (impl_Board_sum_tabok F) Try.func37 (body_some rfl) (impl_Board_sum_lsok0 F) fun args mem hfit ret h => ?_
  clear hfit
  simp only [impl_Board_sum_ent] at h
  split at h
  · rename_i b0
    simp only [Option.some.injEq, Prod.mk.injEq] at h
    obtain ⟨hc, rfl⟩ := h
    exact ⟨[], [], 70, _, (impl_Board_sum_run F b0).trans ((impl_Board_sum_cp _ b0 _).trans (bind_use hc _)), rfl, rfl, rfl⟩
  · cases h

/-! (loop.example/g01194/impl.Board).roadTo -/
noncomputable def impl_Board_roadTo_tab (F : Nat) : Tab := [(22, (impl_IsBoard_ent F)), (37, (impl_Board_sum_ent F)), (24, (impl_Board_reach_ent F))]
theorem impl_Board_roadTo_tabok (F : Nat) : TabOK Try.prog (impl_Board_roadTo_tab F) := (tab_cons (impl_IsBoard_meets F) impl_IsBoard_fok (tab_cons (impl_Board_sum_meets F) impl_Board_sum_fok (tab_cons (impl_Board_reach_meets F) impl_Board_reach_fok tab_nil)))
noncomputable def impl_Board_roadTo_LS0 (F : Nat) : LT := []
theorem impl_Board_roadTo_lsok0 (F : Nat) : LoopsOK Try.prog (impl_Board_roadTo_LS0 F) (bodyOf Try.f31) := loopsOK_nil
theorem impl_Board_roadTo_run (F : Nat) (b0 : List Int) (c1 : List Int) : runS tt (impl_Board_roadTo_tab F) (impl_Board_roadTo_LS0 F) [⟨4, 0, (.tup [(.ri .i64 ([] : List Int))])⟩] [] Try.f31 (bodyOf Try.f31) 70 [(.ints 16 b0), (.ints 16 c1)] [] = impl_Board_roadTo_c _ F b0 c1 (fun r => some ⟨(.tup [(.ri .i64 r.1), (.bool r.2)]), [], []⟩) := by kernel_rfl
def impl_Board_roadTo_ent (F : Nat) : Ent := ⟨[], .quiet, fun args mem => match args, mem with
  | [(.ints 16 b0), (.ints 16 c1)], [] => some ((impl_Board_roadTo_p F b0 c1).isSome, ⟨(.tup [(.ri .i64 ((impl_Board_roadTo_p F b0 c1).getD default).1), (.bool ((impl_Board_roadTo_p F b0 c1).getD default).2)]), [], []⟩)
  | _, _ => none⟩
theorem impl_Board_roadTo_fok : FunOK Try.prog 31 := funOK Try.func31 (by kernel_rfl) rfl
theorem impl_Board_roadTo_meets (F : Nat) : Meets Try.prog 31 (impl_Board_roadTo_ent F) := by
  refine meets_of_runS mixed ttok deep (impl_Board_roadTo_tabok F) Try.func31 (body_some rfl) (impl_Board_roadTo_lsok0 F) fun args mem hfit ret h => ?_
  clear hfit
  simp only [impl_Board_roadTo_ent] at h
  split at h
  · rename_i b0 c1
    simp only [Option.some.injEq, Prod.mk.injEq] at h
    obtain ⟨hc, rfl⟩ := h
    exact ⟨[⟨4, 0, (.tup [(.ri .i64 ([] : List Int))])⟩], [], 70, _, (impl_Board_roadTo_run F b0 c1).trans ((impl_Board_roadTo_cp _ F b0 c1 _).trans (bind_use hc _)), rfl, rfl, rfl⟩
  · cases h

/-! loop.example/g01194/impl.FewestSlides -/
noncomputable def impl_FewestSlides_tab (F : Nat) : Tab := [(31, (impl_Board_roadTo_ent F))]
theorem impl_FewestSlides_tabok (F : Nat) : TabOK Try.prog (impl_FewestSlides_tab F) := (tab_cons (impl_Board_roadTo_meets F) impl_Board_roadTo_fok tab_nil)
noncomputable def impl_FewestSlides_LS0 (F : Nat) : LT := []
theorem impl_FewestSlides_lsok0 (F : Nat) : LoopsOK Try.prog (impl_FewestSlides_LS0 F) (bodyOf Try.f10) := loopsOK_nil
theorem impl_FewestSlides_run (F : Nat) (a0 : List Int) (b1 : List Int) : runS tt (impl_FewestSlides_tab F) (impl_FewestSlides_LS0 F) [] [] Try.f10 (bodyOf Try.f10) 70 [(.ints 16 a0), (.ints 16 b1)] [] = impl_FewestSlides_c _ F a0 b1 (fun r => some ⟨(.tup [(.int .i64 r.1), (.bool r.2)]), [], []⟩) := by kernel_rfl
def impl_FewestSlides_ent (F : Nat) : Ent := ⟨[], .quiet, fun args mem => match args, mem with
  | [(.ints 16 a0), (.ints 16 b1)], [] => some ((impl_FewestSlides_p F a0 b1).isSome, ⟨(.tup [(.int .i64 ((impl_FewestSlides_p F a0 b1).getD default).1), (.bool ((impl_FewestSlides_p F a0 b1).getD default).2)]), [], []⟩)
  | _, _ => none⟩
theorem impl_FewestSlides_fok : FunOK Try.prog 10 := funOK Try.func10 (by kernel_rfl) rfl
theorem impl_FewestSlides_meets (F : Nat) : Meets Try.prog 10 (impl_FewestSlides_ent F) := by
  refine meets_of_runS mixed ttok deep (impl_FewestSlides_tabok F) Try.func10 (body_some rfl) (impl_FewestSlides_lsok0 F) fun args mem hfit ret h => ?_
  clear hfit
  simp only [impl_FewestSlides_ent] at h
  split at h
  · rename_i a0 b1
    simp only [Option.some.injEq, Prod.mk.injEq] at h
    obtain ⟨hc, rfl⟩ := h
    exact ⟨[], [], 70, _, (impl_FewestSlides_run F a0 b1).trans ((impl_FewestSlides_cp _ F a0 b1 _).trans (bind_use hc _)), rfl, rfl, rfl⟩
  · cases h

/-! loop.example/g01194/spec.l5Has -/
noncomputable def spec_l5Has_tab (F : Nat) : Tab := []
theorem spec_l5Has_tabok (F : Nat) : TabOK Try.prog (spec_l5Has_tab F) := tab_nil
noncomputable def spec_l5Has_LS0 (F : Nat) : LT := []
theorem spec_l5Has_lsok0 (F : Nat) : LoopsOK Try.prog (spec_l5Has_LS0 F) (bodyOf Try.f52) := loopsOK_nil
theorem spec_l5Has_keys : keysOK (bodyOf Try.f52) = true := by kernel_rfl
def spec_l5Has_st2 (all0 : List (List Int)) (b5 : List Int) (i4 : Int) : St := ⟨expand 18 0 [0, 3, 5] [(.rr 16 all0), (.ptr 0 0 0 16), (.int .i64 i4)], [(.var 16 (.ri .i64 b5))], 0, []⟩
def spec_l5Has_o2 (all0 : List (List Int)) (b5 : List Int) (x : Bool) : GT := (.br x (.out (.ret ⟨expand 18 0 [4] [(.bool true)], [], 0, []⟩)) (.out (.exit 0 ⟨expand 18 0 [] [], [], 0, []⟩)))
def spec_l5Has_ls2 (F : Nat) : LoopS := ⟨18, [0, 3, 5], [], [], [], [4], [], [], fun vals mem np killed => match vals, mem, np, killed with
  | [(.rr 16 all0), (.ptr 0 0 0 16), (.int .i64 i4)], [(.var 16 (.ri .i64 b5))], 0, [] => .br (spec_l5Has_l2 F all0 b5 i4).isSome (spec_l5Has_o2 all0 b5 ((spec_l5Has_l2 F all0 b5 i4).getD default)) .fail
  | _, _, _, _ => .fail⟩
theorem spec_l5Has_step2 (F : Nat) (all0 : List (List Int)) (b5 : List Int) (i4 : Int) {R : Type} (k : Out → Option R) : stepS tt (spec_l5Has_tab F) (spec_l5Has_LS0 F) 70 (spec_l5Has_ls2 F) (loopAt 2 (bodyOf Try.f52)) (spec_l5Has_st2 all0 b5 i4) k = spec_l5Has_s2 F all0 b5 R i4 (fun s => k (.norm (spec_l5Has_st2 all0 b5 s))) (fun x => (spec_l5Has_o2 all0 b5 x).run k) := by kernel_rfl
theorem spec_l5Has_iter2 (F : Nat) (all0 : List (List Int)) (b5 : List Int) {R : Type} (k : Out → Option R) : ∀ (n : Nat) (i4 : Int), iterS tt (spec_l5Has_tab F) (spec_l5Has_LS0 F) 70 (spec_l5Has_ls2 F) (loopAt 2 (bodyOf Try.f52)) n (spec_l5Has_st2 all0 b5 i4) k = loopC (spec_l5Has_s2 F all0 b5) n i4 (fun x => (spec_l5Has_o2 all0 b5 x).run k)
  | 0, i4 => rfl
  | n + 1, i4 => (iterS_succ tt (spec_l5Has_tab F) (spec_l5Has_LS0 F) 70 (spec_l5Has_ls2 F) (loopAt 2 (bodyOf Try.f52)) n (spec_l5Has_st2 all0 b5 i4) k).trans ((spec_l5Has_step2 F all0 b5 i4 (nextK (iterS tt (spec_l5Has_tab F) (spec_l5Has_LS0 F) 70 (spec_l5Has_ls2 F) (loopAt 2 (bodyOf Try.f52)) n) k)).trans (congrArg (fun kn => spec_l5Has_s2 F all0 b5 R i4 kn _) (funext (fun i4 => spec_l5Has_iter2 F all0 b5 k n i4))))
theorem spec_l5Has_lok2 (F : Nat) : LoopOK Try.prog (loopAt 2 (bodyOf Try.f52)) (spec_l5Has_ls2 F) := by
  refine loopOK_of mixed ttok deep (spec_l5Has_tabok F) (loopsOK_at (spec_l5Has_lsok0 F) 2) (fuel := 70) fun R vals mem np killed k x h => ?_
  simp only [spec_l5Has_ls2] at h
  split at h
  · rename_i all0 i4 b5
    simp only [GT.run] at h
    have hc := (cond_noneL h).1
    replace h := (cond_noneL h).2
    refine ⟨F, (spec_l5Has_iter2 F all0 b5 k F i4).trans ((loopC_use (spec_l5Has_s2_nat F all0 b5) hc _).trans h)⟩
  · simp only [GT.run] at h
    cases h
noncomputable def spec_l5Has_LS1 (F : Nat) : LT := (2, spec_l5Has_ls2 F) :: spec_l5Has_LS0 F
theorem spec_l5Has_lsok1 (F : Nat) : LoopsOK Try.prog (spec_l5Has_LS1 F) (bodyOf Try.f52) := loopsOK_cons spec_l5Has_keys (spec_l5Has_lok2 F) (spec_l5Has_lsok0 F)
theorem spec_l5Has_run (F : Nat) (all0 : List (List Int)) (b1 : List Int) : runS tt (spec_l5Has_tab F) (spec_l5Has_LS1 F) [] [] Try.f52 (bodyOf Try.f52) 70 [(.rr 16 all0), (.ints 16 b1)] [] = spec_l5Has_c _ F all0 b1 (fun r => some ⟨(.bool r), [], []⟩) := by kernel_rfl
def spec_l5Has_ent (F : Nat) : Ent := ⟨[], .quiet, fun args mem => match args, mem with
  | [(.rr 16 all0), (.ints 16 b1)], [] => some ((spec_l5Has_p F all0 b1).isSome, ⟨(.bool ((spec_l5Has_p F all0 b1).getD default)), [], []⟩)
  | _, _ => none⟩
theorem spec_l5Has_fok : FunOK Try.prog 52 := funOK Try.func52 (by kernel_rfl) rfl
theorem spec_l5Has_meets (F : Nat) : Meets Try.prog 52 (spec_l5Has_ent F) := by
  refine meets_of_runS mixed ttok deep (spec_l5Has_tabok F) Try.func52 (body_some rfl) (spec_l5Has_lsok1 F) fun args mem hfit ret h => ?_
  clear hfit
  simp only [spec_l5Has_ent] at h
  split at h
  · rename_i all0 b1
    simp only [Option.some.injEq, Prod.mk.injEq] at h
    obtain ⟨hc, rfl⟩ := h
    exact ⟨[], [], 70, _, (spec_l5Has_run F all0 b1).trans ((spec_l5Has_cp _ F all0 b1 _).trans (bind_use hc _)), rfl, rfl, rfl⟩
  · cases h

/-! loop.example/g01194/spec.l5Fewest -/
noncomputable def spec_l5Fewest_tab (F : Nat) : Tab := [(52, (spec_l5Has_ent F)), (47, (spec_l5Next_ent F))]
theorem spec_l5Fewest_tabok (F : Nat) : TabOK Try.prog (spec_l5Fewest_tab F) := (tab_cons (spec_l5Has_meets F) spec_l5Has_fok (tab_cons (spec_l5Next_meets F) spec_l5Next_fok tab_nil))
noncomputable def spec_l5Fewest_LS0 (F : Nat) : LT := []
theorem spec_l5Fewest_lsok0 (F : Nat) : LoopsOK Try.prog (spec_l5Fewest_LS0 F) (bodyOf Try.f32) := loopsOK_nil
theorem spec_l5Fewest_keys : keysOK (bodyOf Try.f32) = true := by kernel_rfl
def spec_l5Fewest_st3 (most0 : Int) (b6 : List Int) (all4 : List (List Int)) (n5 : Int) : St := ⟨expand 22 0 [2, 4, 7, 8] [(.int .i64 most0), (.ptr 0 0 0 16), (.rr 16 all4), (.int .i64 n5)], [(.var 16 (.ri .i64 b6))], 0, []⟩
def spec_l5Fewest_o3 (most0 : Int) (b6 : List Int) (x : Bool × Int) : GT := (.br x.1 (.out (.ret ⟨expand 22 0 [6] [(.int .i64 x.2)], [], 0, []⟩)) (.out (.exit 0 ⟨expand 22 0 [] [], [], 0, []⟩)))
def spec_l5Fewest_ls3 (F : Nat) : LoopS := ⟨22, [2, 4, 7, 8], [⟨7, 0, (.tup [])⟩], [], [], [6], [], [], fun vals mem np killed => match vals, mem, np, killed with
  | [(.int .i64 most0), (.ptr 0 0 0 16), (.rr 16 all4), (.int .i64 n5)], [(.var 16 (.ri .i64 b6))], 0, [] => .br (spec_l5Fewest_l3 F most0 b6 all4 n5).isSome (spec_l5Fewest_o3 most0 b6 ((spec_l5Fewest_l3 F most0 b6 all4 n5).getD default)) .fail
  | _, _, _, _ => .fail⟩
theorem spec_l5Fewest_step3 (F : Nat) (most0 : Int) (b6 : List Int) (all4 : List (List Int)) (n5 : Int) {R : Type} (k : Out → Option R) : stepS tt (spec_l5Fewest_tab F) (spec_l5Fewest_LS0 F) 70 (spec_l5Fewest_ls3 F) (loopAt 3 (bodyOf Try.f32)) (spec_l5Fewest_st3 most0 b6 all4 n5) k = spec_l5Fewest_s3 F most0 b6 R (all4, n5) (fun s => k (.norm (spec_l5Fewest_st3 most0 b6 s.1 s.2))) (fun x => (spec_l5Fewest_o3 most0 b6 x).run k) := by kernel_rfl
theorem spec_l5Fewest_iter3 (F : Nat) (most0 : Int) (b6 : List Int) {R : Type} (k : Out → Option R) : ∀ (n : Nat) (all4 : List (List Int)) (n5 : Int), iterS tt (spec_l5Fewest_tab F) (spec_l5Fewest_LS0 F) 70 (spec_l5Fewest_ls3 F) (loopAt 3 (bodyOf Try.f32)) n (spec_l5Fewest_st3 most0 b6 all4 n5) k = loopC (spec_l5Fewest_s3 F most0 b6) n (all4, n5) (fun x => (spec_l5Fewest_o3 most0 b6 x).run k)
  | 0, all4, n5 => rfl
  | n + 1, all4, n5 => (iterS_succ tt (spec_l5Fewest_tab F) (spec_l5Fewest_LS0 F) 70 (spec_l5Fewest_ls3 F) (loopAt 3 (bodyOf Try.f32)) n (spec_l5Fewest_st3 most0 b6 all4 n5) k).trans ((spec_l5Fewest_step3 F most0 b6 all4 n5 (nextK (iterS tt (spec_l5Fewest_tab F) (spec_l5Fewest_LS0 F) 70 (spec_l5Fewest_ls3 F) (loopAt 3 (bodyOf Try.f32)) n) k)).trans (congrArg (fun kn => spec_l5Fewest_s3 F most0 b6 R (all4, n5) kn _) (funext (fun ⟨all4, n5⟩ => spec_l5Fewest_iter3 F most0 b6 k n all4 n5))))
theorem spec_l5Fewest_lok3 (F : Nat) : LoopOK Try.prog (loopAt 3 (bodyOf Try.f32)) (spec_l5Fewest_ls3 F) := by
  refine loopOK_of mixed ttok deep (spec_l5Fewest_tabok F) (loopsOK_at (spec_l5Fewest_lsok0 F) 3) (fuel := 70) fun R vals mem np killed k x h => ?_
  simp only [spec_l5Fewest_ls3] at h
  split at h
  · rename_i most0 all4 n5 b6
    simp only [GT.run] at h
    have hc := (cond_noneL h).1
    replace h := (cond_noneL h).2
    refine ⟨F, (spec_l5Fewest_iter3 F most0 b6 k F all4 n5).trans ((loopC_use (spec_l5Fewest_s3_nat F most0 b6) hc _).trans h)⟩
  · simp only [GT.run] at h
    cases h
noncomputable def spec_l5Fewest_LS1 (F : Nat) : LT := (3, spec_l5Fewest_ls3 F) :: spec_l5Fewest_LS0 F
theorem spec_l5Fewest_lsok1 (F : Nat) : LoopsOK Try.prog (spec_l5Fewest_LS1 F) (bodyOf Try.f32) := loopsOK_cons spec_l5Fewest_keys (spec_l5Fewest_lok3 F) (spec_l5Fewest_lsok0 F)
theorem spec_l5Fewest_run (F : Nat) (a0 : List Int) (b1 : List Int) (most2 : Int) : runS tt (spec_l5Fewest_tab F) (spec_l5Fewest_LS1 F) [] [] Try.f32 (bodyOf Try.f32) 70 [(.ints 16 a0), (.ints 16 b1), (.int .i64 most2)] [] = spec_l5Fewest_c _ F a0 b1 most2 (fun r => some ⟨(.int .i64 r), [], []⟩) := by kernel_rfl
def spec_l5Fewest_ent (F : Nat) : Ent := ⟨[], .quiet, fun args mem => match args, mem with
  | [(.ints 16 a0), (.ints 16 b1), (.int .i64 most2)], [] => some ((spec_l5Fewest_p F a0 b1 most2).isSome, ⟨(.int .i64 ((spec_l5Fewest_p F a0 b1 most2).getD default)), [], []⟩)
  | _, _ => none⟩
theorem spec_l5Fewest_fok : FunOK Try.prog 32 := funOK Try.func32 (by kernel_rfl) rfl
theorem spec_l5Fewest_meets (F : Nat) : Meets Try.prog 32 (spec_l5Fewest_ent F) := by
  refine meets_of_runS mixed ttok deep (spec_l5Fewest_tabok F) Try.func32 (body_some rfl) (spec_l5Fewest_lsok1 F) fun args mem hfit ret h => ?_
  clear hfit
  simp only [spec_l5Fewest_ent] at h
  split at h
  · rename_i a0 b1 most2
    simp only [Option.some.injEq, Prod.mk.injEq] at h
    obtain ⟨hc, rfl⟩ := h
    exact ⟨[], [], 70, _, (spec_l5Fewest_run F a0 b1 most2).trans ((spec_l5Fewest_cp _ F a0 b1 most2 _).trans (bind_use hc _)), rfl, rfl, rfl⟩
  · cases h

/-! loop.example/g01194/spec.l1Most -/
noncomputable def spec_l1Most_tab (F : Nat) : Tab := []
theorem spec_l1Most_tabok (F : Nat) : TabOK Try.prog (spec_l1Most_tab F) := tab_nil
noncomputable def spec_l1Most_LS0 (F : Nat) : LT := []
theorem spec_l1Most_lsok0 (F : Nat) : LoopsOK Try.prog (spec_l1Most_LS0 F) (bodyOf Try.f33) := loopsOK_nil
theorem spec_l1Most_run (F : Nat) (a0 : Int) (b1 : Int) : runS tt (spec_l1Most_tab F) (spec_l1Most_LS0 F) [] [] Try.f33 (bodyOf Try.f33) 70 [(.int .i64 a0), (.int .i64 b1)] [] = spec_l1Most_c _ a0 b1 (fun r => some ⟨(.int .i64 r), [], []⟩) := by kernel_rfl
def spec_l1Most_ent (F : Nat) : Ent := ⟨[], .quiet, fun args mem => match args, mem with
  | [(.int .i64 a0), (.int .i64 b1)], [] => some (true, ⟨(.int .i64 (spec_l1Most_v a0 b1)), [], []⟩)
  | _, _ => none⟩
theorem spec_l1Most_fok : FunOK Try.prog 33 := funOK Try.func33 (by kernel_rfl) rfl
theorem spec_l1Most_meets (F : Nat) : Meets Try.prog 33 (spec_l1Most_ent F) := by
  refine meets_of_runS mixed ttok deep (spec_l1Most_tabok F) Try.func33 (body_some rfl) (spec_l1Most_lsok0 F) fun args mem hfit ret h => ?_
  clear hfit
  simp only [spec_l1Most_ent] at h
  split at h
  · rename_i a0 b1
    simp only [Option.some.injEq, Prod.mk.injEq] at h
    obtain ⟨hc, rfl⟩ := h
    exact ⟨[], [], 70, _, (spec_l1Most_run F a0 b1).trans (spec_l1Most_cv _ a0 b1 _), rfl, rfl, rfl⟩
  · cases h
end Go.Proofs.Ytabfliifleonaab
