/-
Pure functions and what the code of them does, by program; without conditions.
-/
import Derived.Test.YtabfliifleonaabQbP4
import Derived.Test.YtabfliifleonaabQbS3
namespace Go.Proofs.Ytabfliifleonaab
open Go Go.Lv Go.Lv.P Go.Proofs
set_option linter.unusedVariables false
set_option linter.unusedSimpArgs false
set_option maxRecDepth 100000
/-! loop.example/g01194/spec.FewestSlides -/
noncomputable def spec_FewestSlides_tab (F : Nat) : Tab := [(26, (spec_l2Board_ent F)), (32, (spec_l5Fewest_ent F)), (33, (spec_l1Most_ent F))]
theorem spec_FewestSlides_tabok (F : Nat) : TabOK Try.prog (spec_FewestSlides_tab F) := (tab_cons (spec_l2Board_meets F) spec_l2Board_fok (tab_cons (spec_l5Fewest_meets F) spec_l5Fewest_fok (tab_cons (spec_l1Most_meets F) spec_l1Most_fok tab_nil)))
noncomputable def spec_FewestSlides_LS0 (F : Nat) : LT := []
theorem spec_FewestSlides_lsok0 (F : Nat) : LoopsOK Try.prog (spec_FewestSlides_LS0 F) (bodyOf Try.f11) := loopsOK_nil
theorem spec_FewestSlides_run (F : Nat) (a0 : List Int) (b1 : List Int) : runS tt (spec_FewestSlides_tab F) (spec_FewestSlides_LS0 F) [] [] Try.f11 (bodyOf Try.f11) 70 [(.ints 16 a0), (.ints 16 b1)] [] = spec_FewestSlides_c _ F a0 b1 (fun r => some ⟨(.tup [(.int .i64 r.1), (.bool r.2)]), [], []⟩) := by kernel_rfl
def spec_FewestSlides_ent (F : Nat) : Ent := ⟨[], .quiet, fun args mem => match args, mem with
  | [(.ints 16 a0), (.ints 16 b1)], [] => some ((spec_FewestSlides_p F a0 b1).isSome, ⟨(.tup [(.int .i64 ((spec_FewestSlides_p F a0 b1).getD default).1), (.bool ((spec_FewestSlides_p F a0 b1).getD default).2)]), [], []⟩)
  | _, _ => none⟩
theorem spec_FewestSlides_fok : FunOK Try.prog 11 := funOK Try.func11 (by kernel_rfl) rfl
theorem spec_FewestSlides_meets (F : Nat) : Meets Try.prog 11 (spec_FewestSlides_ent F) := by
  refine meets_of_runS mixed ttok deep (spec_FewestSlides_tabok F) Try.func11 (body_some rfl) (spec_FewestSlides_lsok0 F) fun args mem hfit ret h => ?_
  clear hfit
  simp only [spec_FewestSlides_ent] at h
  split at h
  · rename_i a0 b1
    simp only [Option.some.injEq, Prod.mk.injEq] at h
    obtain ⟨hc, rfl⟩ := h
    exact ⟨[], [], 70, _, (spec_FewestSlides_run F a0 b1).trans ((spec_FewestSlides_cp _ F a0 b1 _).trans (bind_use hc _)), rfl, rfl, rfl⟩
  · cases h

/-! loop.example/g01194/impl.FirstSlides -/
noncomputable def impl_FirstSlides_tab (F : Nat) : Tab := [(31, (impl_Board_roadTo_ent F)), (34, (slices_Clone_intint_ent F))]
theorem impl_FirstSlides_tabok (F : Nat) : TabOK Try.prog (impl_FirstSlides_tab F) := (tab_cons (impl_Board_roadTo_meets F) impl_Board_roadTo_fok (tab_cons (slices_Clone_intint_meets F) slices_Clone_intint_fok tab_nil))
noncomputable def impl_FirstSlides_LS0 (F : Nat) : LT := []
theorem impl_FirstSlides_lsok0 (F : Nat) : LoopsOK Try.prog (impl_FirstSlides_LS0 F) (bodyOf Try.f12) := loopsOK_nil
theorem impl_FirstSlides_run (F : Nat) (a0 : List Int) (b1 : List Int) : runS tt (impl_FirstSlides_tab F) (impl_FirstSlides_LS0 F) [] [] Try.f12 (bodyOf Try.f12) 70 [(.ints 16 a0), (.ints 16 b1)] [] = impl_FirstSlides_c _ F a0 b1 (fun r => some ⟨(.tup [(.sl 0 0 (List.length r.2)), (.bool r.1)]), [(.vec 3 (.ri .i64 r.2))], []⟩) := by kernel_rfl
def impl_FirstSlides_ent (F : Nat) : Ent := ⟨[], .fresh, fun args mem => match args, mem with
  | [(.ints 16 a0), (.ints 16 b1)], [] => some ((impl_FirstSlides_p F a0 b1).isSome, ⟨(.tup [(.sl 0 0 (List.length ((impl_FirstSlides_p F a0 b1).getD default).2)), (.bool ((impl_FirstSlides_p F a0 b1).getD default).1)]), [(.vec 3 (.ri .i64 ((impl_FirstSlides_p F a0 b1).getD default).2))], []⟩)
  | _, _ => none⟩
theorem impl_FirstSlides_fok : FunOK Try.prog 12 := funOK Try.func12 (by kernel_rfl) rfl
theorem impl_FirstSlides_meets (F : Nat) : Meets Try.prog 12 (impl_FirstSlides_ent F) := by
  refine meets_of_runS mixed ttok deep (impl_FirstSlides_tabok F) Try.func12 (body_some rfl) (impl_FirstSlides_lsok0 F) fun args mem hfit ret h => ?_
  clear hfit
  simp only [impl_FirstSlides_ent] at h
  split at h
  · rename_i a0 b1
    simp only [Option.some.injEq, Prod.mk.injEq] at h
    obtain ⟨hc, rfl⟩ := h
    exact ⟨[], [], 70, _, (impl_FirstSlides_run F a0 b1).trans ((impl_FirstSlides_cp _ F a0 b1 _).trans (bind_use hc _)), rfl, rfl, rfl⟩
  · cases h

/-! loop.example/g01194/spec.FirstSlides -/
noncomputable def spec_FirstSlides_tab (F : Nat) : Tab := [(11, (spec_FewestSlides_ent F)), (29, (spec_l2Slide_ent F)), (32, (spec_l5Fewest_ent F))]
theorem spec_FirstSlides_tabok (F : Nat) : TabOK Try.prog (spec_FirstSlides_tab F) := (tab_cons (spec_FewestSlides_meets F) spec_FewestSlides_fok (tab_cons (spec_l2Slide_meets F) spec_l2Slide_fok (tab_cons (spec_l5Fewest_meets F) spec_l5Fewest_fok tab_nil)))
noncomputable def spec_FirstSlides_LS0 (F : Nat) : LT := []
theorem spec_FirstSlides_lsok0 (F : Nat) : LoopsOK Try.prog (spec_FirstSlides_LS0 F) (bodyOf Try.f13) := loopsOK_nil
theorem spec_FirstSlides_keys : keysOK (bodyOf Try.f13) = true := by kernel_rfl
def spec_FirstSlides_st8 (n8 : Int) (a10 : List Int) (b11 : List Int) (out12 : List Int) (d9 : Int) : St := ⟨expand 50 0 [2, 3, 6, 7, 9] [(.ptr 0 0 0 16), (.ptr 1 0 0 16), (.sl 2 0 (List.length out12)), (.int .i64 n8), (.int .i64 d9)], [(.var 16 (.ri .i64 a10)), (.var 16 (.ri .i64 b11)), (.vec 3 (.ri .i64 out12))], 0, []⟩
def spec_FirstSlides_o8 (n8 : Int) (a10 : List Int) (b11 : List Int) (out12 : List Int) (x : List Int × List Int) : GT := (.out (.exit 2 ⟨expand 50 0 [2, 3, 6, 7] [(.ptr 0 0 0 16), (.ptr 1 0 0 16), (.sl 2 0 (List.length x.2)), (.int .i64 n8)], [(.var 16 (.ri .i64 x.1)), (.var 16 (.ri .i64 b11)), (.vec 3 (.ri .i64 x.2))], 0, []⟩))
def spec_FirstSlides_ls8 (F : Nat) : LoopS := ⟨50, [2, 3, 6, 7, 9], [], [2, 3, 6, 7], [], [4, 5], [], [], fun vals mem np killed => match vals, mem, np, killed with
  | [(.ptr 0 0 0 16), (.ptr 1 0 0 16), (.sl 2 0 q_out7), (.int .i64 n8), (.int .i64 d9)], [(.var 16 (.ri .i64 a10)), (.var 16 (.ri .i64 b11)), (.vec 3 (.ri .i64 out12))], 0, [] => .br ((Nat.beq q_out7 (List.length out12)) && (spec_FirstSlides_l8 F n8 a10 b11 out12 d9).isSome) (spec_FirstSlides_o8 n8 a10 b11 out12 ((spec_FirstSlides_l8 F n8 a10 b11 out12 d9).getD default)) .fail
  | _, _, _, _ => .fail⟩
theorem spec_FirstSlides_step8 (F : Nat) (n8 : Int) (a10 : List Int) (b11 : List Int) (out12 : List Int) (d9 : Int) {R : Type} (k : Out → Option R) : stepS tt (spec_FirstSlides_tab F) (spec_FirstSlides_LS0 F) 70 (spec_FirstSlides_ls8 F) (loopAt 8 (bodyOf Try.f13)) (spec_FirstSlides_st8 n8 a10 b11 out12 d9) k = spec_FirstSlides_s8 F n8 a10 b11 out12 R d9 (fun s => k (.norm (spec_FirstSlides_st8 n8 a10 b11 out12 s))) (fun x => (spec_FirstSlides_o8 n8 a10 b11 out12 x).run k) := by kernel_rfl
theorem spec_FirstSlides_iter8 (F : Nat) (n8 : Int) (a10 : List Int) (b11 : List Int) (out12 : List Int) {R : Type} (k : Out → Option R) : ∀ (n : Nat) (d9 : Int), iterS tt (spec_FirstSlides_tab F) (spec_FirstSlides_LS0 F) 70 (spec_FirstSlides_ls8 F) (loopAt 8 (bodyOf Try.f13)) n (spec_FirstSlides_st8 n8 a10 b11 out12 d9) k = loopC (spec_FirstSlides_s8 F n8 a10 b11 out12) n d9 (fun x => (spec_FirstSlides_o8 n8 a10 b11 out12 x).run k)
  | 0, d9 => rfl
  | n + 1, d9 => (iterS_succ tt (spec_FirstSlides_tab F) (spec_FirstSlides_LS0 F) 70 (spec_FirstSlides_ls8 F) (loopAt 8 (bodyOf Try.f13)) n (spec_FirstSlides_st8 n8 a10 b11 out12 d9) k).trans ((spec_FirstSlides_step8 F n8 a10 b11 out12 d9 (nextK (iterS tt (spec_FirstSlides_tab F) (spec_FirstSlides_LS0 F) 70 (spec_FirstSlides_ls8 F) (loopAt 8 (bodyOf Try.f13)) n) k)).trans (congrArg (fun kn => spec_FirstSlides_s8 F n8 a10 b11 out12 R d9 kn _) (funext (fun d9 => spec_FirstSlides_iter8 F n8 a10 b11 out12 k n d9))))
theorem spec_FirstSlides_lok8 (F : Nat) : LoopOK Try.prog (loopAt 8 (bodyOf Try.f13)) (spec_FirstSlides_ls8 F) := by
  refine loopOK_of mixed ttok deep (spec_FirstSlides_tabok F) (loopsOK_at (spec_FirstSlides_lsok0 F) 8) (fuel := 70) fun R vals mem np killed k x h => ?_
  simp only [spec_FirstSlides_ls8] at h
  split at h
  · rename_i q_out7 n8 d9 a10 b11 out12
    simp only [GT.run] at h
    have hc := (cond_noneL h).1
    replace h := (cond_noneL h).2
    have hg := (and_split hc).1
    replace hc := (and_split hc).2
    obtain rfl := nbeq_nat hg
    refine ⟨F, (spec_FirstSlides_iter8 F n8 a10 b11 out12 k F d9).trans ((loopC_use (spec_FirstSlides_s8_nat F n8 a10 b11 out12) hc _).trans h)⟩
  · simp only [GT.run] at h
    cases h
noncomputable def spec_FirstSlides_LS1 (F : Nat) : LT := (8, spec_FirstSlides_ls8 F) :: spec_FirstSlides_LS0 F
theorem spec_FirstSlides_lsok1 (F : Nat) : LoopsOK Try.prog (spec_FirstSlides_LS1 F) (bodyOf Try.f13) := loopsOK_cons spec_FirstSlides_keys (spec_FirstSlides_lok8 F) (spec_FirstSlides_lsok0 F)
def spec_FirstSlides_st5 (b10 : List Int) (n8 : Int) (a9 : List Int) (out11 : List Int) : St := ⟨expand 50 0 [2, 3, 6, 7] [(.ptr 0 0 0 16), (.ptr 1 0 0 16), (.sl 2 0 (List.length out11)), (.int .i64 n8)], [(.var 16 (.ri .i64 a9)), (.var 16 (.ri .i64 b10)), (.vec 3 (.ri .i64 out11))], 0, []⟩
def spec_FirstSlides_o5 (b10 : List Int) (x : List Int) : GT := (.out (.exit 0 ⟨expand 50 0 [6] [(.sl 0 0 (List.length x))], [(.vec 3 (.ri .i64 x))], 0, []⟩))
def spec_FirstSlides_ls5 (F : Nat) : LoopS := ⟨50, [2, 3, 6, 7], [], [6], [], [4, 5], [], [], fun vals mem np killed => match vals, mem, np, killed with
  | [(.ptr 0 0 0 16), (.ptr 1 0 0 16), (.sl 2 0 q_out7), (.int .i64 n8)], [(.var 16 (.ri .i64 a9)), (.var 16 (.ri .i64 b10)), (.vec 3 (.ri .i64 out11))], 0, [] => .br ((Nat.beq q_out7 (List.length out11)) && (spec_FirstSlides_l5 F b10 n8 a9 out11).isSome) (spec_FirstSlides_o5 b10 ((spec_FirstSlides_l5 F b10 n8 a9 out11).getD default)) .fail
  | _, _, _, _ => .fail⟩
theorem spec_FirstSlides_step5 (F : Nat) (b10 : List Int) (n8 : Int) (a9 : List Int) (out11 : List Int) {R : Type} (k : Out → Option R) : stepS tt (spec_FirstSlides_tab F) (spec_FirstSlides_LS1 F) 70 (spec_FirstSlides_ls5 F) (loopAt 5 (bodyOf Try.f13)) (spec_FirstSlides_st5 b10 n8 a9 out11) k = spec_FirstSlides_s5 F b10 R (n8, a9, out11) (fun s => k (.norm (spec_FirstSlides_st5 b10 s.1 s.2.1 s.2.2))) (fun x => (spec_FirstSlides_o5 b10 x).run k) := by kernel_rfl
theorem spec_FirstSlides_iter5 (F : Nat) (b10 : List Int) {R : Type} (k : Out → Option R) : ∀ (n : Nat) (n8 : Int) (a9 : List Int) (out11 : List Int), iterS tt (spec_FirstSlides_tab F) (spec_FirstSlides_LS1 F) 70 (spec_FirstSlides_ls5 F) (loopAt 5 (bodyOf Try.f13)) n (spec_FirstSlides_st5 b10 n8 a9 out11) k = loopC (spec_FirstSlides_s5 F b10) n (n8, a9, out11) (fun x => (spec_FirstSlides_o5 b10 x).run k)
  | 0, n8, a9, out11 => rfl
  | n + 1, n8, a9, out11 => (iterS_succ tt (spec_FirstSlides_tab F) (spec_FirstSlides_LS1 F) 70 (spec_FirstSlides_ls5 F) (loopAt 5 (bodyOf Try.f13)) n (spec_FirstSlides_st5 b10 n8 a9 out11) k).trans ((spec_FirstSlides_step5 F b10 n8 a9 out11 (nextK (iterS tt (spec_FirstSlides_tab F) (spec_FirstSlides_LS1 F) 70 (spec_FirstSlides_ls5 F) (loopAt 5 (bodyOf Try.f13)) n) k)).trans (congrArg (fun kn => spec_FirstSlides_s5 F b10 R (n8, a9, out11) kn _) (funext (fun ⟨n8, a9, out11⟩ => spec_FirstSlides_iter5 F b10 k n n8 a9 out11))))
theorem spec_FirstSlides_lok5 (F : Nat) : LoopOK Try.prog (loopAt 5 (bodyOf Try.f13)) (spec_FirstSlides_ls5 F) := by
  refine loopOK_of mixed ttok deep (spec_FirstSlides_tabok F) (loopsOK_at (spec_FirstSlides_lsok1 F) 5) (fuel := 70) fun R vals mem np killed k x h => ?_
  simp only [spec_FirstSlides_ls5] at h
  split at h
  · rename_i q_out7 n8 a9 b10 out11
    simp only [GT.run] at h
    have hc := (cond_noneL h).1
    replace h := (cond_noneL h).2
    have hg := (and_split hc).1
    replace hc := (and_split hc).2
    obtain rfl := nbeq_nat hg
    refine ⟨F, (spec_FirstSlides_iter5 F b10 k F n8 a9 out11).trans ((loopC_use (spec_FirstSlides_s5_nat F b10) hc _).trans h)⟩
  · simp only [GT.run] at h
    cases h
noncomputable def spec_FirstSlides_LS2 (F : Nat) : LT := (5, spec_FirstSlides_ls5 F) :: spec_FirstSlides_LS1 F
theorem spec_FirstSlides_lsok2 (F : Nat) : LoopsOK Try.prog (spec_FirstSlides_LS2 F) (bodyOf Try.f13) := loopsOK_cons spec_FirstSlides_keys (spec_FirstSlides_lok5 F) (spec_FirstSlides_lsok1 F)
theorem spec_FirstSlides_run (F : Nat) (a0 : List Int) (b1 : List Int) : runS tt (spec_FirstSlides_tab F) (spec_FirstSlides_LS2 F) [] [] Try.f13 (bodyOf Try.f13) 70 [(.ints 16 a0), (.ints 16 b1)] [] = spec_FirstSlides_c _ F a0 b1 (fun r => some ⟨(.tup [(.sl 0 0 (List.length r.2)), (.bool r.1)]), [(.vec 3 (.ri .i64 r.2))], []⟩) := by kernel_rfl
def spec_FirstSlides_ent (F : Nat) : Ent := ⟨[], .fresh, fun args mem => match args, mem with
  | [(.ints 16 a0), (.ints 16 b1)], [] => some ((spec_FirstSlides_p F a0 b1).isSome, ⟨(.tup [(.sl 0 0 (List.length ((spec_FirstSlides_p F a0 b1).getD default).2)), (.bool ((spec_FirstSlides_p F a0 b1).getD default).1)]), [(.vec 3 (.ri .i64 ((spec_FirstSlides_p F a0 b1).getD default).2))], []⟩)
  | _, _ => none⟩
theorem spec_FirstSlides_fok : FunOK Try.prog 13 := funOK Try.func13 (by kernel_rfl) rfl
theorem spec_FirstSlides_meets (F : Nat) : Meets Try.prog 13 (spec_FirstSlides_ent F) := by
  refine meets_of_runS mixed ttok deep (spec_FirstSlides_tabok F) Try.func13 (body_some rfl) (spec_FirstSlides_lsok2 F) fun args mem hfit ret h => ?_
  clear hfit
  simp only [spec_FirstSlides_ent] at h
  split at h
  · rename_i a0 b1
    simp only [Option.some.injEq, Prod.mk.injEq] at h
    obtain ⟨hc, rfl⟩ := h
    exact ⟨[], [], 70, _, (spec_FirstSlides_run F a0 b1).trans ((spec_FirstSlides_cp _ F a0 b1 _).trans (bind_use hc _)), rfl, rfl, rfl⟩
  · cases h

/-! loop.example/g01194/laws.vBoards -/
noncomputable def laws_vBoards_tab (F : Nat) : Tab := []
theorem laws_vBoards_tabok (F : Nat) : TabOK Try.prog (laws_vBoards_tab F) := tab_nil
noncomputable def laws_vBoards_LS0 (F : Nat) : LT := []
theorem laws_vBoards_lsok0 (F : Nat) : LoopsOK Try.prog (laws_vBoards_LS0 F) (bodyOf Try.f14) := loopsOK_nil
theorem laws_vBoards_keys : keysOK (bodyOf Try.f14) = true := by kernel_rfl
def laws_vBoards_st4 (a0 : List (List Int)) (b1 : List (List Int)) (i2 : Int) : St := ⟨expand 26 0 [0, 1, 5] [(.rr 16 a0), (.rr 16 b1), (.int .i64 i2)], [], 0, []⟩
def laws_vBoards_o4 (a0 : List (List Int)) (b1 : List (List Int)) (x : Bool) : GT := (.br x (.out (.ret ⟨expand 26 0 [4] [(.bool false)], [], 0, []⟩)) (.out (.exit 0 ⟨expand 26 0 [] [], [], 0, []⟩)))
def laws_vBoards_ls4 (F : Nat) : LoopS := ⟨26, [0, 1, 5], [], [], [], [4], [], [], fun vals mem np killed => match vals, mem, np, killed with
  | [(.rr 16 a0), (.rr 16 b1), (.int .i64 i2)], [], 0, [] => .br (laws_vBoards_l4 F a0 b1 i2).isSome (laws_vBoards_o4 a0 b1 ((laws_vBoards_l4 F a0 b1 i2).getD default)) .fail
  | _, _, _, _ => .fail⟩
theorem laws_vBoards_step4 (F : Nat) (a0 : List (List Int)) (b1 : List (List Int)) (i2 : Int) {R : Type} (k : Out → Option R) : stepS tt (laws_vBoards_tab F) (laws_vBoards_LS0 F) 70 (laws_vBoards_ls4 F) (loopAt 4 (bodyOf Try.f14)) (laws_vBoards_st4 a0 b1 i2) k = laws_vBoards_s4 F a0 b1 R i2 (fun s => k (.norm (laws_vBoards_st4 a0 b1 s))) (fun x => (laws_vBoards_o4 a0 b1 x).run k) := by kernel_rfl
theorem laws_vBoards_iter4 (F : Nat) (a0 : List (List Int)) (b1 : List (List Int)) {R : Type} (k : Out → Option R) : ∀ (n : Nat) (i2 : Int), iterS tt (laws_vBoards_tab F) (laws_vBoards_LS0 F) 70 (laws_vBoards_ls4 F) (loopAt 4 (bodyOf Try.f14)) n (laws_vBoards_st4 a0 b1 i2) k = loopC (laws_vBoards_s4 F a0 b1) n i2 (fun x => (laws_vBoards_o4 a0 b1 x).run k)
  | 0, i2 => rfl
  | n + 1, i2 => (iterS_succ tt (laws_vBoards_tab F) (laws_vBoards_LS0 F) 70 (laws_vBoards_ls4 F) (loopAt 4 (bodyOf Try.f14)) n (laws_vBoards_st4 a0 b1 i2) k).trans ((laws_vBoards_step4 F a0 b1 i2 (nextK (iterS tt (laws_vBoards_tab F) (laws_vBoards_LS0 F) 70 (laws_vBoards_ls4 F) (loopAt 4 (bodyOf Try.f14)) n) k)).trans (congrArg (fun kn => laws_vBoards_s4 F a0 b1 R i2 kn _) (funext (fun i2 => laws_vBoards_iter4 F a0 b1 k n i2))))
theorem laws_vBoards_lok4 (F : Nat) : LoopOK Try.prog (loopAt 4 (bodyOf Try.f14)) (laws_vBoards_ls4 F) := by
  refine loopOK_of mixed ttok deep (laws_vBoards_tabok F) (loopsOK_at (laws_vBoards_lsok0 F) 4) (fuel := 70) fun R vals mem np killed k x h => ?_
  simp only [laws_vBoards_ls4] at h
  split at h
  · rename_i a0 b1 i2
    simp only [GT.run] at h
    have hc := (cond_noneL h).1
    replace h := (cond_noneL h).2
    refine ⟨F, (laws_vBoards_iter4 F a0 b1 k F i2).trans ((loopC_use (laws_vBoards_s4_nat F a0 b1) hc _).trans h)⟩
  · simp only [GT.run] at h
    cases h
noncomputable def laws_vBoards_LS1 (F : Nat) : LT := (4, laws_vBoards_ls4 F) :: laws_vBoards_LS0 F
theorem laws_vBoards_lsok1 (F : Nat) : LoopsOK Try.prog (laws_vBoards_LS1 F) (bodyOf Try.f14) := loopsOK_cons laws_vBoards_keys (laws_vBoards_lok4 F) (laws_vBoards_lsok0 F)
theorem laws_vBoards_run (F : Nat) (a0 : List (List Int)) (b1 : List (List Int)) : runS tt (laws_vBoards_tab F) (laws_vBoards_LS1 F) [] [] Try.f14 (bodyOf Try.f14) 70 [(.rr 16 a0), (.rr 16 b1)] [] = laws_vBoards_c _ F a0 b1 (fun r => some ⟨(.bool r), [], []⟩) := by kernel_rfl
def laws_vBoards_ent (F : Nat) : Ent := ⟨[], .quiet, fun args mem => match args, mem with
  | [(.rr 16 a0), (.rr 16 b1)], [] => some ((laws_vBoards_p F a0 b1).isSome, ⟨(.bool ((laws_vBoards_p F a0 b1).getD default)), [], []⟩)
  | _, _ => none⟩
theorem laws_vBoards_fok : FunOK Try.prog 14 := funOK Try.func14 (by kernel_rfl) rfl
theorem laws_vBoards_meets (F : Nat) : Meets Try.prog 14 (laws_vBoards_ent F) := by
  refine meets_of_runS mixed ttok deep (laws_vBoards_tabok F) Try.func14 (body_some rfl) (laws_vBoards_lsok1 F) fun args mem hfit ret h => ?_
  clear hfit
  simp only [laws_vBoards_ent] at h
  split at h
  · rename_i a0 b1
    simp only [Option.some.injEq, Prod.mk.injEq] at h
    obtain ⟨hc, rfl⟩ := h
    exact ⟨[], [], 70, _, (laws_vBoards_run F a0 b1).trans ((laws_vBoards_cp _ F a0 b1 _).trans (bind_use hc _)), rfl, rfl, rfl⟩
  · cases h

/-! loop.example/g01194/laws.vInts -/
noncomputable def laws_vInts_tab (F : Nat) : Tab := []
theorem laws_vInts_tabok (F : Nat) : TabOK Try.prog (laws_vInts_tab F) := tab_nil
noncomputable def laws_vInts_LS0 (F : Nat) : LT := []
theorem laws_vInts_lsok0 (F : Nat) : LoopsOK Try.prog (laws_vInts_LS0 F) (bodyOf Try.f15) := loopsOK_nil
theorem laws_vInts_keys : keysOK (bodyOf Try.f15) = true := by kernel_rfl
def laws_vInts_st4 (a0 : List Int) (b1 : List Int) (i2 : Int) : St := ⟨expand 26 0 [0, 1, 5] [(.ri .i64 a0), (.ri .i64 b1), (.int .i64 i2)], [], 0, []⟩
def laws_vInts_o4 (a0 : List Int) (b1 : List Int) (x : Bool) : GT := (.br x (.out (.ret ⟨expand 26 0 [4] [(.bool false)], [], 0, []⟩)) (.out (.exit 0 ⟨expand 26 0 [] [], [], 0, []⟩)))
def laws_vInts_ls4 (F : Nat) : LoopS := ⟨26, [0, 1, 5], [], [], [], [4], [], [], fun vals mem np killed => match vals, mem, np, killed with
  | [(.ri .i64 a0), (.ri .i64 b1), (.int .i64 i2)], [], 0, [] => .br (laws_vInts_l4 F a0 b1 i2).isSome (laws_vInts_o4 a0 b1 ((laws_vInts_l4 F a0 b1 i2).getD default)) .fail
  | _, _, _, _ => .fail⟩
theorem laws_vInts_step4 (F : Nat) (a0 : List Int) (b1 : List Int) (i2 : Int) {R : Type} (k : Out → Option R) : stepS tt (laws_vInts_tab F) (laws_vInts_LS0 F) 70 (laws_vInts_ls4 F) (loopAt 4 (bodyOf Try.f15)) (laws_vInts_st4 a0 b1 i2) k = laws_vInts_s4 F a0 b1 R i2 (fun s => k (.norm (laws_vInts_st4 a0 b1 s))) (fun x => (laws_vInts_o4 a0 b1 x).run k) := by kernel_rfl
theorem laws_vInts_iter4 (F : Nat) (a0 : List Int) (b1 : List Int) {R : Type} (k : Out → Option R) : ∀ (n : Nat) (i2 : Int), iterS tt (laws_vInts_tab F) (laws_vInts_LS0 F) 70 (laws_vInts_ls4 F) (loopAt 4 (bodyOf Try.f15)) n (laws_vInts_st4 a0 b1 i2) k = loopC (laws_vInts_s4 F a0 b1) n i2 (fun x => (laws_vInts_o4 a0 b1 x).run k)
  | 0, i2 => rfl
  | n + 1, i2 => (iterS_succ tt (laws_vInts_tab F) (laws_vInts_LS0 F) 70 (laws_vInts_ls4 F) (loopAt 4 (bodyOf Try.f15)) n (laws_vInts_st4 a0 b1 i2) k).trans ((laws_vInts_step4 F a0 b1 i2 (nextK (iterS tt (laws_vInts_tab F) (laws_vInts_LS0 F) 70 (laws_vInts_ls4 F) (loopAt 4 (bodyOf Try.f15)) n) k)).trans (congrArg (fun kn => laws_vInts_s4 F a0 b1 R i2 kn _) (funext (fun i2 => laws_vInts_iter4 F a0 b1 k n i2))))
theorem laws_vInts_lok4 (F : Nat) : LoopOK Try.prog (loopAt 4 (bodyOf Try.f15)) (laws_vInts_ls4 F) := by
  refine loopOK_of mixed ttok deep (laws_vInts_tabok F) (loopsOK_at (laws_vInts_lsok0 F) 4) (fuel := 70) fun R vals mem np killed k x h => ?_
  simp only [laws_vInts_ls4] at h
  split at h
  · rename_i a0 b1 i2
    simp only [GT.run] at h
    have hc := (cond_noneL h).1
    replace h := (cond_noneL h).2
    refine ⟨F, (laws_vInts_iter4 F a0 b1 k F i2).trans ((loopC_use (laws_vInts_s4_nat F a0 b1) hc _).trans h)⟩
  · simp only [GT.run] at h
    cases h
noncomputable def laws_vInts_LS1 (F : Nat) : LT := (4, laws_vInts_ls4 F) :: laws_vInts_LS0 F
theorem laws_vInts_lsok1 (F : Nat) : LoopsOK Try.prog (laws_vInts_LS1 F) (bodyOf Try.f15) := loopsOK_cons laws_vInts_keys (laws_vInts_lok4 F) (laws_vInts_lsok0 F)
theorem laws_vInts_run (F : Nat) (a0 : List Int) (b1 : List Int) : runS tt (laws_vInts_tab F) (laws_vInts_LS1 F) [] [] Try.f15 (bodyOf Try.f15) 70 [(.ri .i64 a0), (.ri .i64 b1)] [] = laws_vInts_c _ F a0 b1 (fun r => some ⟨(.bool r), [], []⟩) := by kernel_rfl
def laws_vInts_ent (F : Nat) : Ent := ⟨[], .quiet, fun args mem => match args, mem with
  | [(.ri .i64 a0), (.ri .i64 b1)], [] => some ((laws_vInts_p F a0 b1).isSome, ⟨(.bool ((laws_vInts_p F a0 b1).getD default)), [], []⟩)
  | _, _ => none⟩
theorem laws_vInts_fok : FunOK Try.prog 15 := funOK Try.func15 (by kernel_rfl) rfl
theorem laws_vInts_meets (F : Nat) : Meets Try.prog 15 (laws_vInts_ent F) := by
  refine meets_of_runS mixed ttok deep (laws_vInts_tabok F) Try.func15 (body_some rfl) (laws_vInts_lsok1 F) fun args mem hfit ret h => ?_
  clear hfit
  simp only [laws_vInts_ent] at h
  split at h
  · rename_i a0 b1
    simp only [Option.some.injEq, Prod.mk.injEq] at h
    obtain ⟨hc, rfl⟩ := h
    exact ⟨[], [], 70, _, (laws_vInts_run F a0 b1).trans ((laws_vInts_cp _ F a0 b1 _).trans (bind_use hc _)), rfl, rfl, rfl⟩
  · cases h

/-! loop.example/g01194/impl.isDirection -/
noncomputable def impl_isDirection_tab (F : Nat) : Tab := [(23, (impl_in_ent F))]
theorem impl_isDirection_tabok (F : Nat) : TabOK Try.prog (impl_isDirection_tab F) := (tab_cons (impl_in_meets F) impl_in_fok tab_nil)
noncomputable def impl_isDirection_LS0 (F : Nat) : LT := []
theorem impl_isDirection_lsok0 (F : Nat) : LoopsOK Try.prog (impl_isDirection_LS0 F) (bodyOf Try.f55) := loopsOK_nil
theorem impl_isDirection_run (F : Nat) (d0 : Int) : runS tt (impl_isDirection_tab F) (impl_isDirection_LS0 F) [] [] Try.f55 (bodyOf Try.f55) 70 [(.int .i64 d0)] [] = impl_isDirection_c _ d0 (fun r => some ⟨(.bool r), [], []⟩) := by kernel_rfl
def impl_isDirection_ent (F : Nat) : Ent := ⟨[], .quiet, fun args mem => match args, mem with
  | [(.int .i64 d0)], [] => some (true, ⟨(.bool (impl_isDirection_v d0)), [], []⟩)
  | _, _ => none⟩
theorem impl_isDirection_fok : FunOK Try.prog 55 := funOK Try.func55 (by kernel_rfl) rfl
theorem impl_isDirection_meets (F : Nat) : Meets Try.prog 55 (impl_isDirection_ent F) := by
  refine meets_of_runS mixed ttok deep (impl_isDirection_tabok F) Try.func55 (body_some rfl) (impl_isDirection_lsok0 F) fun args mem hfit ret h => ?_
  clear hfit
  simp only [impl_isDirection_ent] at h
  split at h
  · rename_i d0
    simp only [Option.some.injEq, Prod.mk.injEq] at h
    obtain ⟨hc, rfl⟩ := h
    exact ⟨[], [], 70, _, (impl_isDirection_run F d0).trans (impl_isDirection_cv _ d0 _), rfl, rfl, rfl⟩
  · cases h

/-! loop.example/g01194/impl.areDirections$1 -/
noncomputable def impl_areDirections_f1_tab (F : Nat) : Tab := [(55, (impl_isDirection_ent F))]
theorem impl_areDirections_f1_tabok (F : Nat) : TabOK Try.prog (impl_areDirections_f1_tab F) := (tab_cons (impl_isDirection_meets F) impl_isDirection_fok tab_nil)
noncomputable def impl_areDirections_f1_LS0 (F : Nat) : LT := []
theorem impl_areDirections_f1_lsok0 (F : Nat) : LoopsOK Try.prog (impl_areDirections_f1_LS0 F) (bodyOf Try.f54) := loopsOK_nil
theorem impl_areDirections_f1_run (F : Nat) (d0 : Int) : runS tt (impl_areDirections_f1_tab F) (impl_areDirections_f1_LS0 F) [] [] Try.f54 (bodyOf Try.f54) 70 [(.int .i64 d0)] [] = impl_areDirections_f1_c _ d0 (fun r => some ⟨(.bool r), [], []⟩) := by kernel_rfl
def impl_areDirections_f1_ent (F : Nat) : Ent := ⟨[], .quiet, fun args mem => match args, mem with
  | [(.int .i64 d0)], [] => some (true, ⟨(.bool (impl_areDirections_f1_v d0)), [], []⟩)
  | _, _ => none⟩
theorem impl_areDirections_f1_fok : FunOK Try.prog 54 := funOK Try.func54 (by kernel_rfl) rfl
theorem impl_areDirections_f1_meets (F : Nat) : Meets Try.prog 54 (impl_areDirections_f1_ent F) := by
  refine meets_of_runS mixed ttok deep (impl_areDirections_f1_tabok F) Try.func54 (body_some rfl) (impl_areDirections_f1_lsok0 F) fun args mem hfit ret h => ?_
  clear hfit
  simp only [impl_areDirections_f1_ent] at h
  split at h
  · rename_i d0
    simp only [Option.some.injEq, Prod.mk.injEq] at h
    obtain ⟨hc, rfl⟩ := h
    exact ⟨[], [], 70, _, (impl_areDirections_f1_run F d0).trans (impl_areDirections_f1_cv _ d0 _), rfl, rfl, rfl⟩
  · cases h

/-! slices.IndexFunc[[]int,int] -/
noncomputable def slices_IndexFunc_intint_impl_areDirections_f1_tab (F : Nat) : Tab := [(54, (impl_areDirections_f1_ent F))]
theorem slices_IndexFunc_intint_impl_areDirections_f1_tabok (F : Nat) : TabOK Try.prog (slices_IndexFunc_intint_impl_areDirections_f1_tab F) := (tab_cons (impl_areDirections_f1_meets F) impl_areDirections_f1_fok tab_nil)
noncomputable def slices_IndexFunc_intint_impl_areDirections_f1_LS0 (F : Nat) : LT := []
theorem slices_IndexFunc_intint_impl_areDirections_f1_lsok0 (F : Nat) : LoopsOK Try.prog (slices_IndexFunc_intint_impl_areDirections_f1_LS0 F) (bodyOf Try.f71) := loopsOK_nil
theorem slices_IndexFunc_intint_impl_areDirections_f1_keys : keysOK (bodyOf Try.f71) = true := by kernel_rfl
def slices_IndexFunc_intint_impl_areDirections_f1_st2 (s0 : List Int) (t71 : Int) (t82 : Int) : St := ⟨expand 19 0 [0, 1, 7, 8] [(.ri .i64 s0), (.fn 54 [] []), (.int .i64 t71), (.int .i64 t82)], [], 0, []⟩
def slices_IndexFunc_intint_impl_areDirections_f1_o2 (s0 : List Int) (t71 : Int) (x : Bool × Int) : GT := (.br x.1 (.out (.ret ⟨expand 19 0 [4] [(.int .i64 x.2)], [], 0, []⟩)) (.out (.exit 0 ⟨expand 19 0 [] [], [], 0, []⟩)))
def slices_IndexFunc_intint_impl_areDirections_f1_ls2 (F : Nat) : LoopS := ⟨19, [0, 1, 7, 8], [], [], [], [4], [], [], fun vals mem np killed => match vals, mem, np, killed with
  | [(.ri .i64 s0), (.fn 54 [] []), (.int .i64 t71), (.int .i64 t82)], [], 0, [] => .br (slices_IndexFunc_intint_impl_areDirections_f1_l2 F s0 t71 t82).isSome (slices_IndexFunc_intint_impl_areDirections_f1_o2 s0 t71 ((slices_IndexFunc_intint_impl_areDirections_f1_l2 F s0 t71 t82).getD default)) .fail
  | _, _, _, _ => .fail⟩
theorem slices_IndexFunc_intint_impl_areDirections_f1_step2 (F : Nat) (s0 : List Int) (t71 : Int) (t82 : Int) {R : Type} (k : Out → Option R) : stepS tt (slices_IndexFunc_intint_impl_areDirections_f1_tab F) (slices_IndexFunc_intint_impl_areDirections_f1_LS0 F) 70 (slices_IndexFunc_intint_impl_areDirections_f1_ls2 F) (loopAt 2 (bodyOf Try.f71)) (slices_IndexFunc_intint_impl_areDirections_f1_st2 s0 t71 t82) k = slices_IndexFunc_intint_impl_areDirections_f1_s2 F s0 t71 R t82 (fun s => k (.norm (slices_IndexFunc_intint_impl_areDirections_f1_st2 s0 t71 s))) (fun x => (slices_IndexFunc_intint_impl_areDirections_f1_o2 s0 t71 x).run k) := by kernel_rfl
theorem slices_IndexFunc_intint_impl_areDirections_f1_iter2 (F : Nat) (s0 : List Int) (t71 : Int) {R : Type} (k : Out → Option R) : ∀ (n : Nat) (t82 : Int), iterS tt (slices_IndexFunc_intint_impl_areDirections_f1_tab F) (slices_IndexFunc_intint_impl_areDirections_f1_LS0 F) 70 (slices_IndexFunc_intint_impl_areDirections_f1_ls2 F) (loopAt 2 (bodyOf Try.f71)) n (slices_IndexFunc_intint_impl_areDirections_f1_st2 s0 t71 t82) k = loopC (slices_IndexFunc_intint_impl_areDirections_f1_s2 F s0 t71) n t82 (fun x => (slices_IndexFunc_intint_impl_areDirections_f1_o2 s0 t71 x).run k)
  | 0, t82 => rfl
  | n + 1, t82 => (iterS_succ tt (slices_IndexFunc_intint_impl_areDirections_f1_tab F) (slices_IndexFunc_intint_impl_areDirections_f1_LS0 F) 70 (slices_IndexFunc_intint_impl_areDirections_f1_ls2 F) (loopAt 2 (bodyOf Try.f71)) n (slices_IndexFunc_intint_impl_areDirections_f1_st2 s0 t71 t82) k).trans ((slices_IndexFunc_intint_impl_areDirections_f1_step2 F s0 t71 t82 (nextK (iterS tt (slices_IndexFunc_intint_impl_areDirections_f1_tab F) (slices_IndexFunc_intint_impl_areDirections_f1_LS0 F) 70 (slices_IndexFunc_intint_impl_areDirections_f1_ls2 F) (loopAt 2 (bodyOf Try.f71)) n) k)).trans (congrArg (fun kn => slices_IndexFunc_intint_impl_areDirections_f1_s2 F s0 t71 R t82 kn _) (funext (fun t82 => slices_IndexFunc_intint_impl_areDirections_f1_iter2 F s0 t71 k n t82))))
theorem slices_IndexFunc_intint_impl_areDirections_f1_lok2 (F : Nat) : LoopOK Try.prog (loopAt 2 (bodyOf Try.f71)) (slices_IndexFunc_intint_impl_areDirections_f1_ls2 F) := by
  refine loopOK_of mixed ttok deep (slices_IndexFunc_intint_impl_areDirections_f1_tabok F) (loopsOK_at (slices_IndexFunc_intint_impl_areDirections_f1_lsok0 F) 2) (fuel := 70) fun R vals mem np killed k x h => ?_
  simp only [slices_IndexFunc_intint_impl_areDirections_f1_ls2] at h
  split at h
  · rename_i s0 t71 t82
    simp only [GT.run] at h
    have hc := (cond_noneL h).1
    replace h := (cond_noneL h).2
    refine ⟨F, (slices_IndexFunc_intint_impl_areDirections_f1_iter2 F s0 t71 k F t82).trans ((loopC_use (slices_IndexFunc_intint_impl_areDirections_f1_s2_nat F s0 t71) hc _).trans h)⟩
  · simp only [GT.run] at h
    cases h
noncomputable def slices_IndexFunc_intint_impl_areDirections_f1_LS1 (F : Nat) : LT := (2, slices_IndexFunc_intint_impl_areDirections_f1_ls2 F) :: slices_IndexFunc_intint_impl_areDirections_f1_LS0 F
theorem slices_IndexFunc_intint_impl_areDirections_f1_lsok1 (F : Nat) : LoopsOK Try.prog (slices_IndexFunc_intint_impl_areDirections_f1_LS1 F) (bodyOf Try.f71) := loopsOK_cons slices_IndexFunc_intint_impl_areDirections_f1_keys (slices_IndexFunc_intint_impl_areDirections_f1_lok2 F) (slices_IndexFunc_intint_impl_areDirections_f1_lsok0 F)
theorem slices_IndexFunc_intint_impl_areDirections_f1_run (F : Nat) (s0 : List Int) : runS tt (slices_IndexFunc_intint_impl_areDirections_f1_tab F) (slices_IndexFunc_intint_impl_areDirections_f1_LS1 F) [] [] Try.f71 (bodyOf Try.f71) 70 [(.ri .i64 s0), (.fn 54 [] [])] [] = slices_IndexFunc_intint_impl_areDirections_f1_c _ F s0 (fun r => some ⟨(.int .i64 r), [], []⟩) := by kernel_rfl
def slices_IndexFunc_intint_impl_areDirections_f1_ent (F : Nat) : Ent := ⟨[], .quiet, fun args mem => match args, mem with
  | [(.ri .i64 s0), (.fn 54 [] [])], [] => some ((slices_IndexFunc_intint_impl_areDirections_f1_p F s0).isSome, ⟨(.int .i64 ((slices_IndexFunc_intint_impl_areDirections_f1_p F s0).getD default)), [], []⟩)
  | _, _ => none⟩
theorem slices_IndexFunc_intint_impl_areDirections_f1_fok : FunOK Try.prog 71 := funOK Try.func71 (by kernel_rfl) rfl
theorem slices_IndexFunc_intint_impl_areDirections_f1_meets (F : Nat) : Meets Try.prog 71 (slices_IndexFunc_intint_impl_areDirections_f1_ent F) := by
  refine meets_of_runS mixed ttok deep (slices_IndexFunc_intint_impl_areDirections_f1_tabok F) Try.func71 (body_some rfl) (slices_IndexFunc_intint_impl_areDirections_f1_lsok1 F) fun args mem hfit ret h => ?_
  clear hfit
  simp only [slices_IndexFunc_intint_impl_areDirections_f1_ent] at h
  split at h
  · rename_i s0
    simp only [Option.some.injEq, Prod.mk.injEq] at h
    obtain ⟨hc, rfl⟩ := h
    exact ⟨[], [], 70, _, (slices_IndexFunc_intint_impl_areDirections_f1_run F s0).trans ((slices_IndexFunc_intint_impl_areDirections_f1_cp _ F s0 _).trans (bind_use hc _)), rfl, rfl, rfl⟩
  · cases h

/-! slices.ContainsFunc[[]int,int] -/
noncomputable def slices_ContainsFunc_intint_impl_areDirections_f1_tab (F : Nat) : Tab := [(71, (slices_IndexFunc_intint_impl_areDirections_f1_ent F))]
theorem slices_ContainsFunc_intint_impl_areDirections_f1_tabok (F : Nat) : TabOK Try.prog (slices_ContainsFunc_intint_impl_areDirections_f1_tab F) := (tab_cons (slices_IndexFunc_intint_impl_areDirections_f1_meets F) slices_IndexFunc_intint_impl_areDirections_f1_fok tab_nil)
noncomputable def slices_ContainsFunc_intint_impl_areDirections_f1_LS0 (F : Nat) : LT := []
theorem slices_ContainsFunc_intint_impl_areDirections_f1_lsok0 (F : Nat) : LoopsOK Try.prog (slices_ContainsFunc_intint_impl_areDirections_f1_LS0 F) (bodyOf Try.f53) := loopsOK_nil
theorem slices_ContainsFunc_intint_impl_areDirections_f1_run (F : Nat) (s0 : List Int) : runS tt (slices_ContainsFunc_intint_impl_areDirections_f1_tab F) (slices_ContainsFunc_intint_impl_areDirections_f1_LS0 F) [] [] Try.f53 (bodyOf Try.f53) 70 [(.ri .i64 s0), (.fn 54 [] [])] [] = slices_ContainsFunc_intint_impl_areDirections_f1_c _ F s0 (fun r => some ⟨(.bool r), [], []⟩) := by kernel_rfl
def slices_ContainsFunc_intint_impl_areDirections_f1_ent (F : Nat) : Ent := ⟨[], .quiet, fun args mem => match args, mem with
  | [(.ri .i64 s0), (.fn 54 [] [])], [] => some ((slices_ContainsFunc_intint_impl_areDirections_f1_p F s0).isSome, ⟨(.bool ((slices_ContainsFunc_intint_impl_areDirections_f1_p F s0).getD default)), [], []⟩)
  | _, _ => none⟩
theorem slices_ContainsFunc_intint_impl_areDirections_f1_fok : FunOK Try.prog 53 := funOK Try.func53 (by kernel_rfl) rfl
theorem slices_ContainsFunc_intint_impl_areDirections_f1_meets (F : Nat) : Meets Try.prog 53 (slices_ContainsFunc_intint_impl_areDirections_f1_ent F) := by
  refine meets_of_runS mixed ttok deep (slices_ContainsFunc_intint_impl_areDirections_f1_tabok F) Try.func53 (body_some rfl) (slices_ContainsFunc_intint_impl_areDirections_f1_lsok0 F) fun args mem hfit ret h => ?_
  clear hfit
  simp only [slices_ContainsFunc_intint_impl_areDirections_f1_ent] at h
  split at h
  · rename_i s0
    simp only [Option.some.injEq, Prod.mk.injEq] at h
    obtain ⟨hc, rfl⟩ := h
    exact ⟨[], [], 70, _, (slices_ContainsFunc_intint_impl_areDirections_f1_run F s0).trans ((slices_ContainsFunc_intint_impl_areDirections_f1_cp _ F s0 _).trans (bind_use hc _)), rfl, rfl, rfl⟩
  · cases h

/-! loop.example/g01194/impl.areDirections -/
noncomputable def impl_areDirections_tab (F : Nat) : Tab := [(53, (slices_ContainsFunc_intint_impl_areDirections_f1_ent F))]
theorem impl_areDirections_tabok (F : Nat) : TabOK Try.prog (impl_areDirections_tab F) := (tab_cons (slices_ContainsFunc_intint_impl_areDirections_f1_meets F) slices_ContainsFunc_intint_impl_areDirections_f1_fok tab_nil)
noncomputable def impl_areDirections_LS0 (F : Nat) : LT := []
theorem impl_areDirections_lsok0 (F : Nat) : LoopsOK Try.prog (impl_areDirections_LS0 F) (bodyOf Try.f35) := loopsOK_nil
theorem impl_areDirections_run (F : Nat) (list0 : List Int) : runS tt (impl_areDirections_tab F) (impl_areDirections_LS0 F) [] [] Try.f35 (bodyOf Try.f35) 70 [(.ri .i64 list0)] [] = impl_areDirections_c _ F list0 (fun r => some ⟨(.bool r), [], []⟩) := by kernel_rfl
def impl_areDirections_ent (F : Nat) : Ent := ⟨[], .quiet, fun args mem => match args, mem with
  | [(.ri .i64 list0)], [] => some ((impl_areDirections_p F list0).isSome, ⟨(.bool ((impl_areDirections_p F list0).getD default)), [], []⟩)
  | _, _ => none⟩
theorem impl_areDirections_fok : FunOK Try.prog 35 := funOK Try.func35 (by kernel_rfl) rfl
theorem impl_areDirections_meets (F : Nat) : Meets Try.prog 35 (impl_areDirections_ent F) := by
  refine meets_of_runS mixed ttok deep (impl_areDirections_tabok F) Try.func35 (body_some rfl) (impl_areDirections_lsok0 F) fun args mem hfit ret h => ?_
  clear hfit
  simp only [impl_areDirections_ent] at h
  split at h
  · rename_i list0
    simp only [Option.some.injEq, Prod.mk.injEq] at h
    obtain ⟨hc, rfl⟩ := h
    exact ⟨[], [], 70, _, (impl_areDirections_run F list0).trans ((impl_areDirections_cp _ F list0 _).trans (bind_use hc _)), rfl, rfl, rfl⟩
  · cases h

/-! loop.example/g01194/impl.DoSlides -/
noncomputable def impl_DoSlides_tab (F : Nat) : Tab := [(22, (impl_IsBoard_ent F)), (35, (impl_areDirections_ent F)), (36, (impl_Board_slide_ent F))]
theorem impl_DoSlides_tabok (F : Nat) : TabOK Try.prog (impl_DoSlides_tab F) := (tab_cons (impl_IsBoard_meets F) impl_IsBoard_fok (tab_cons (impl_areDirections_meets F) impl_areDirections_fok (tab_cons (impl_Board_slide_meets F) impl_Board_slide_fok tab_nil)))
noncomputable def impl_DoSlides_LS0 (F : Nat) : LT := []
theorem impl_DoSlides_lsok0 (F : Nat) : LoopsOK Try.prog (impl_DoSlides_LS0 F) (bodyOf Try.f16) := loopsOK_nil
theorem impl_DoSlides_keys : keysOK (bodyOf Try.f16) = true := by kernel_rfl
def impl_DoSlides_st5 (t227 : List Int) (t238 : Int) (sum6 : Int) (t249 : Int) (b10 : List Int) : St := ⟨expand 42 0 [2, 4, 7, 22, 23, 24] [(.ptr 0 0 0 16), (.ptr 1 0 0 16), (.int .i64 sum6), (.ri .i64 t227), (.int .i64 t238), (.int .i64 t249)], [(.var 16 (.ri .i64 b10)), (.var 16 (.ri .i64 [(0 : Int), (0 : Int), (0 : Int), (0 : Int), (0 : Int), (0 : Int), (0 : Int), (0 : Int), (0 : Int), (0 : Int), (0 : Int), (0 : Int), (0 : Int), (0 : Int), (0 : Int), (0 : Int)]))], 0, []⟩
def impl_DoSlides_o5 (t227 : List Int) (t238 : Int) (x : Int × List Int) : GT := (.out (.exit 0 ⟨expand 42 0 [2, 4, 7] [(.ptr 0 0 0 16), (.ptr 1 0 0 16), (.int .i64 x.1)], [(.var 16 (.ri .i64 x.2)), (.var 16 (.ri .i64 [(0 : Int), (0 : Int), (0 : Int), (0 : Int), (0 : Int), (0 : Int), (0 : Int), (0 : Int), (0 : Int), (0 : Int), (0 : Int), (0 : Int), (0 : Int), (0 : Int), (0 : Int), (0 : Int)]))], 0, []⟩))
def impl_DoSlides_ls5 (F : Nat) : LoopS := ⟨42, [2, 4, 7, 22, 23, 24], [], [2, 4, 7], [], [4, 5, 6], [], [], fun vals mem np killed => match vals, mem, np, killed with
  | [(.ptr 0 0 0 16), (.ptr 1 0 0 16), (.int .i64 sum6), (.ri .i64 t227), (.int .i64 t238), (.int .i64 t249)], [(.var 16 (.ri .i64 b10)), (.var 16 (.ri .i64 q_t411))], 0, [] => .br ((q_t411 == ([(0 : Int), (0 : Int), (0 : Int), (0 : Int), (0 : Int), (0 : Int), (0 : Int), (0 : Int), (0 : Int), (0 : Int), (0 : Int), (0 : Int), (0 : Int), (0 : Int), (0 : Int), (0 : Int)] : List Int)) && (impl_DoSlides_l5 F t227 t238 sum6 t249 b10).isSome) (impl_DoSlides_o5 t227 t238 ((impl_DoSlides_l5 F t227 t238 sum6 t249 b10).getD default)) .fail
  | _, _, _, _ => .fail⟩
theorem impl_DoSlides_step5 (F : Nat) (t227 : List Int) (t238 : Int) (sum6 : Int) (t249 : Int) (b10 : List Int) {R : Type} (k : Out → Option R) : stepS tt (impl_DoSlides_tab F) (impl_DoSlides_LS0 F) 70 (impl_DoSlides_ls5 F) (loopAt 5 (bodyOf Try.f16)) (impl_DoSlides_st5 t227 t238 sum6 t249 b10) k = impl_DoSlides_s5 F t227 t238 R (sum6, t249, b10) (fun s => k (.norm (impl_DoSlides_st5 t227 t238 s.1 s.2.1 s.2.2))) (fun x => (impl_DoSlides_o5 t227 t238 x).run k) := by kernel_rfl
theorem impl_DoSlides_iter5 (F : Nat) (t227 : List Int) (t238 : Int) {R : Type} (k : Out → Option R) : ∀ (n : Nat) (sum6 : Int) (t249 : Int) (b10 : List Int), iterS tt (impl_DoSlides_tab F) (impl_DoSlides_LS0 F) 70 (impl_DoSlides_ls5 F) (loopAt 5 (bodyOf Try.f16)) n (impl_DoSlides_st5 t227 t238 sum6 t249 b10) k = loopC (impl_DoSlides_s5 F t227 t238) n (sum6, t249, b10) (fun x => (impl_DoSlides_o5 t227 t238 x).run k)
  | 0, sum6, t249, b10 => rfl
  | n + 1, sum6, t249, b10 => (iterS_succ tt (impl_DoSlides_tab F) (impl_DoSlides_LS0 F) 70 (impl_DoSlides_ls5 F) (loopAt 5 (bodyOf Try.f16)) n (impl_DoSlides_st5 t227 t238 sum6 t249 b10) k).trans ((impl_DoSlides_step5 F t227 t238 sum6 t249 b10 (nextK (iterS tt (impl_DoSlides_tab F) (impl_DoSlides_LS0 F) 70 (impl_DoSlides_ls5 F) (loopAt 5 (bodyOf Try.f16)) n) k)).trans (congrArg (fun kn => impl_DoSlides_s5 F t227 t238 R (sum6, t249, b10) kn _) (funext (fun ⟨sum6, t249, b10⟩ => impl_DoSlides_iter5 F t227 t238 k n sum6 t249 b10))))
theorem impl_DoSlides_lok5 (F : Nat) : LoopOK Try.prog (loopAt 5 (bodyOf Try.f16)) (impl_DoSlides_ls5 F) := by
  refine loopOK_of mixed ttok deep (impl_DoSlides_tabok F) (loopsOK_at (impl_DoSlides_lsok0 F) 5) (fuel := 70) fun R vals mem np killed k x h => ?_
  simp only [impl_DoSlides_ls5] at h
  split at h
  · rename_i sum6 t227 t238 t249 b10 q_t411
    simp only [GT.run] at h
    have hc := (cond_noneL h).1
    replace h := (cond_noneL h).2
    have hg := (and_split hc).1
    replace hc := (and_split hc).2
    obtain rfl := beq_li hg
    refine ⟨F, (impl_DoSlides_iter5 F t227 t238 k F sum6 t249 b10).trans ((loopC_use (impl_DoSlides_s5_nat F t227 t238) hc _).trans h)⟩
  · simp only [GT.run] at h
    cases h
noncomputable def impl_DoSlides_LS1 (F : Nat) : LT := (5, impl_DoSlides_ls5 F) :: impl_DoSlides_LS0 F
theorem impl_DoSlides_lsok1 (F : Nat) : LoopsOK Try.prog (impl_DoSlides_LS1 F) (bodyOf Try.f16) := loopsOK_cons impl_DoSlides_keys (impl_DoSlides_lok5 F) (impl_DoSlides_lsok0 F)
theorem impl_DoSlides_run (F : Nat) (b0 : List Int) (list1 : List Int) : runS tt (impl_DoSlides_tab F) (impl_DoSlides_LS1 F) [] [] Try.f16 (bodyOf Try.f16) 70 [(.ints 16 b0), (.ri .i64 list1)] [] = impl_DoSlides_c _ F b0 list1 (fun r => some ⟨(.tup [(.ints 16 r.1), (.int .i64 r.2.1), (.bool r.2.2)]), [], []⟩) := by kernel_rfl
def impl_DoSlides_ent (F : Nat) : Ent := ⟨[], .quiet, fun args mem => match args, mem with
  | [(.ints 16 b0), (.ri .i64 list1)], [] => some ((impl_DoSlides_p F b0 list1).isSome, ⟨(.tup [(.ints 16 ((impl_DoSlides_p F b0 list1).getD default).1), (.int .i64 ((impl_DoSlides_p F b0 list1).getD default).2.1), (.bool ((impl_DoSlides_p F b0 list1).getD default).2.2)]), [], []⟩)
  | _, _ => none⟩
theorem impl_DoSlides_fok : FunOK Try.prog 16 := funOK Try.func16 (by kernel_rfl) rfl
theorem impl_DoSlides_meets (F : Nat) : Meets Try.prog 16 (impl_DoSlides_ent F) := by
  refine meets_of_runS mixed ttok deep (impl_DoSlides_tabok F) Try.func16 (body_some rfl) (impl_DoSlides_lsok1 F) fun args mem hfit ret h => ?_
  clear hfit
  simp only [impl_DoSlides_ent] at h
  split at h
  · rename_i b0 list1
    simp only [Option.some.injEq, Prod.mk.injEq] at h
    obtain ⟨hc, rfl⟩ := h
    exact ⟨[], [], 70, _, (impl_DoSlides_run F b0 list1).trans ((impl_DoSlides_cp _ F b0 list1 _).trans (bind_use hc _)), rfl, rfl, rfl⟩
  · cases h

/-! loop.example/g01194/impl.SumOf -/
noncomputable def impl_SumOf_tab (F : Nat) : Tab := [(22, (impl_IsBoard_ent F)), (37, (impl_Board_sum_ent F))]
theorem impl_SumOf_tabok (F : Nat) : TabOK Try.prog (impl_SumOf_tab F) := (tab_cons (impl_IsBoard_meets F) impl_IsBoard_fok (tab_cons (impl_Board_sum_meets F) impl_Board_sum_fok tab_nil))
noncomputable def impl_SumOf_LS0 (F : Nat) : LT := []
theorem impl_SumOf_lsok0 (F : Nat) : LoopsOK Try.prog (impl_SumOf_LS0 F) (bodyOf Try.f17) := loopsOK_nil
theorem impl_SumOf_run (F : Nat) (b0 : List Int) : runS tt (impl_SumOf_tab F) (impl_SumOf_LS0 F) [] [] Try.f17 (bodyOf Try.f17) 70 [(.ints 16 b0)] [] = impl_SumOf_c _ F b0 (fun r => some ⟨(.tup [(.int .i64 r.1), (.bool r.2)]), [], []⟩) := by kernel_rfl
def impl_SumOf_ent (F : Nat) : Ent := ⟨[], .quiet, fun args mem => match args, mem with
  | [(.ints 16 b0)], [] => some ((impl_SumOf_p F b0).isSome, ⟨(.tup [(.int .i64 ((impl_SumOf_p F b0).getD default).1), (.bool ((impl_SumOf_p F b0).getD default).2)]), [], []⟩)
  | _, _ => none⟩
theorem impl_SumOf_fok : FunOK Try.prog 17 := funOK Try.func17 (by kernel_rfl) rfl
theorem impl_SumOf_meets (F : Nat) : Meets Try.prog 17 (impl_SumOf_ent F) := by
  refine meets_of_runS mixed ttok deep (impl_SumOf_tabok F) Try.func17 (body_some rfl) (impl_SumOf_lsok0 F) fun args mem hfit ret h => ?_
  clear hfit
  simp only [impl_SumOf_ent] at h
  split at h
  · rename_i b0
    simp only [Option.some.injEq, Prod.mk.injEq] at h
    obtain ⟨hc, rfl⟩ := h
    exact ⟨[], [], 70, _, (impl_SumOf_run F b0).trans ((impl_SumOf_cp _ F b0 _).trans (bind_use hc _)), rfl, rfl, rfl⟩
  · cases h

/-! loop.example/g01194/impl.LessBoard -/
noncomputable def impl_LessBoard_tab (F : Nat) : Tab := [(22, (impl_IsBoard_ent F)), (38, (impl_Board_order_ent F))]
theorem impl_LessBoard_tabok (F : Nat) : TabOK Try.prog (impl_LessBoard_tab F) := (tab_cons (impl_IsBoard_meets F) impl_IsBoard_fok (tab_cons (impl_Board_order_meets F) impl_Board_order_fok tab_nil))
noncomputable def impl_LessBoard_LS0 (F : Nat) : LT := []
theorem impl_LessBoard_lsok0 (F : Nat) : LoopsOK Try.prog (impl_LessBoard_LS0 F) (bodyOf Try.f18) := loopsOK_nil
theorem impl_LessBoard_run (F : Nat) (a0 : List Int) (b1 : List Int) : runS tt (impl_LessBoard_tab F) (impl_LessBoard_LS0 F) [] [] Try.f18 (bodyOf Try.f18) 70 [(.ints 16 a0), (.ints 16 b1)] [] = impl_LessBoard_c _ F a0 b1 (fun r => some ⟨(.tup [(.bool r.1), (.bool r.2)]), [], []⟩) := by kernel_rfl
def impl_LessBoard_ent (F : Nat) : Ent := ⟨[], .quiet, fun args mem => match args, mem with
  | [(.ints 16 a0), (.ints 16 b1)], [] => some ((impl_LessBoard_p F a0 b1).isSome, ⟨(.tup [(.bool ((impl_LessBoard_p F a0 b1).getD default).1), (.bool ((impl_LessBoard_p F a0 b1).getD default).2)]), [], []⟩)
  | _, _ => none⟩
theorem impl_LessBoard_fok : FunOK Try.prog 18 := funOK Try.func18 (by kernel_rfl) rfl
theorem impl_LessBoard_meets (F : Nat) : Meets Try.prog 18 (impl_LessBoard_ent F) := by
  refine meets_of_runS mixed ttok deep (impl_LessBoard_tabok F) Try.func18 (body_some rfl) (impl_LessBoard_lsok0 F) fun args mem hfit ret h => ?_
  clear hfit
  simp only [impl_LessBoard_ent] at h
  split at h
  · rename_i a0 b1
    simp only [Option.some.injEq, Prod.mk.injEq] at h
    obtain ⟨hc, rfl⟩ := h
    exact ⟨[], [], 70, _, (impl_LessBoard_run F a0 b1).trans ((impl_LessBoard_cp _ F a0 b1 _).trans (bind_use hc _)), rfl, rfl, rfl⟩
  · cases h
end Go.Proofs.Ytabfliifleonaab
