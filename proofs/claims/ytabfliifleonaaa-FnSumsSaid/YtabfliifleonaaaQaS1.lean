/-
Pure functions and what the code of them does, by program; without conditions.
-/
import Derived.Test.YtabfliifleonaaaQaP1
import Derived.Test.YtabfliifleonaaaQaS0
namespace Go.Proofs.Ytabfliifleonaaa
open Go Go.Lv Go.Lv.P Go.Proofs
set_option linter.unusedVariables false
set_option linter.unusedSimpArgs false
set_option maxRecDepth 100000
/-! loop.example/g01194/impl.HighestFor -/
noncomputable def impl_HighestFor_tab (F : Nat) : Tab := [(27, (impl_isFor_ent F)), (32, (math_bits_Len_ent F))]
theorem impl_HighestFor_tabok (F : Nat) : TabOK Try.prog (impl_HighestFor_tab F) := (tab_cons (impl_isFor_meets F) impl_isFor_fok (tab_cons (math_bits_Len_meets F) math_bits_Len_fok tab_nil))
noncomputable def impl_HighestFor_LS0 (F : Nat) : LT := []
theorem impl_HighestFor_lsok0 (F : Nat) : LoopsOK Try.prog (impl_HighestFor_LS0 F) (bodyOf Try.f10) := loopsOK_nil
theorem impl_HighestFor_run (F : Nat) (sum0 : Int) : runS tt (impl_HighestFor_tab F) (impl_HighestFor_LS0 F) [] [] Try.f10 (bodyOf Try.f10) 70 [(.int .i64 sum0)] [] = impl_HighestFor_c _ sum0 (fun r => some ⟨(.tup [(.int .i64 r.1), (.bool r.2)]), [], []⟩) := by kernel_rfl
def impl_HighestFor_ent (F : Nat) : Ent := ⟨[], .quiet, fun args mem => match args, mem with
  | [(.int .i64 sum0)], [] => some ((impl_HighestFor_p sum0).isSome, ⟨(.tup [(.int .i64 ((impl_HighestFor_p sum0).getD default).1), (.bool ((impl_HighestFor_p sum0).getD default).2)]), [], []⟩)
  | _, _ => none⟩
theorem impl_HighestFor_fok : FunOK Try.prog 10 := funOK Try.func10 (by kernel_rfl) rfl
theorem impl_HighestFor_meets (F : Nat) : Meets Try.prog 10 (impl_HighestFor_ent F) := by
  refine meets_of_runS mixed ttok deep (impl_HighestFor_tabok F) Try.func10 (body_some rfl) (impl_HighestFor_lsok0 F) fun args mem hfit ret h => ?_
  clear hfit
  simp only [impl_HighestFor_ent] at h
  split at h
  · rename_i sum0
    simp only [Option.some.injEq, Prod.mk.injEq] at h
    obtain ⟨hc, rfl⟩ := h
    exact ⟨[], [], 70, _, (impl_HighestFor_run F sum0).trans ((impl_HighestFor_cp _ sum0 _).trans (bind_use hc _)), rfl, rfl, rfl⟩
  · cases h

/-! loop.example/g01194/spec.HighestFor -/
noncomputable def spec_HighestFor_tab (F : Nat) : Tab := [(29, (spec_l7Sum_ent F)), (30, (spec_l7Least_ent F))]
theorem spec_HighestFor_tabok (F : Nat) : TabOK Try.prog (spec_HighestFor_tab F) := (tab_cons (spec_l7Sum_meets F) spec_l7Sum_fok (tab_cons (spec_l7Least_meets F) spec_l7Least_fok tab_nil))
noncomputable def spec_HighestFor_LS0 (F : Nat) : LT := []
theorem spec_HighestFor_lsok0 (F : Nat) : LoopsOK Try.prog (spec_HighestFor_LS0 F) (bodyOf Try.f11) := loopsOK_nil
theorem spec_HighestFor_run (F : Nat) (sum0 : Int) : runS tt (spec_HighestFor_tab F) (spec_HighestFor_LS0 F) [] [] Try.f11 (bodyOf Try.f11) 70 [(.int .i64 sum0)] [] = spec_HighestFor_c _ F sum0 (fun r => some ⟨(.tup [(.int .i64 r.1), (.bool r.2)]), [], []⟩) := by kernel_rfl
def spec_HighestFor_ent (F : Nat) : Ent := ⟨[], .quiet, fun args mem => match args, mem with
  | [(.int .i64 sum0)], [] => some ((spec_HighestFor_p F sum0).isSome, ⟨(.tup [(.int .i64 ((spec_HighestFor_p F sum0).getD default).1), (.bool ((spec_HighestFor_p F sum0).getD default).2)]), [], []⟩)
  | _, _ => none⟩
theorem spec_HighestFor_fok : FunOK Try.prog 11 := funOK Try.func11 (by kernel_rfl) rfl
theorem spec_HighestFor_meets (F : Nat) : Meets Try.prog 11 (spec_HighestFor_ent F) := by
  refine meets_of_runS mixed ttok deep (spec_HighestFor_tabok F) Try.func11 (body_some rfl) (spec_HighestFor_lsok0 F) fun args mem hfit ret h => ?_
  clear hfit
  simp only [spec_HighestFor_ent] at h
  split at h
  · rename_i sum0
    simp only [Option.some.injEq, Prod.mk.injEq] at h
    obtain ⟨hc, rfl⟩ := h
    exact ⟨[], [], 70, _, (spec_HighestFor_run F sum0).trans ((spec_HighestFor_cp _ F sum0 _).trans (bind_use hc _)), rfl, rfl, rfl⟩
  · cases h

/-! loop.example/g01194/laws.vCut -/
noncomputable def laws_vCut_tab (F : Nat) : Tab := []
theorem laws_vCut_tabok (F : Nat) : TabOK Try.prog (laws_vCut_tab F) := tab_nil
noncomputable def laws_vCut_LS0 (F : Nat) : LT := []
theorem laws_vCut_lsok0 (F : Nat) : LoopsOK Try.prog (laws_vCut_LS0 F) (bodyOf Try.f13) := loopsOK_nil
theorem laws_vCut_run (F : Nat) (code0 : List Int) (n1 : Int) : runS tt (laws_vCut_tab F) (laws_vCut_LS0 F) [] [] Try.f13 (bodyOf Try.f13) 70 [(.ri .u8 code0), (.int .i64 n1)] [] = laws_vCut_c _ code0 n1 (fun r => some ⟨(.sl 0 0 (List.length r)), [(.vec 5 (.ri .u8 r))], []⟩) := by kernel_rfl
def laws_vCut_ent (F : Nat) : Ent := ⟨[], .fresh, fun args mem => match args, mem with
  | [(.ri .u8 code0), (.int .i64 n1)], [] => some ((laws_vCut_p code0 n1).isSome, ⟨(.sl 0 0 (List.length ((laws_vCut_p code0 n1).getD default))), [(.vec 5 (.ri .u8 ((laws_vCut_p code0 n1).getD default)))], []⟩)
  | _, _ => none⟩
theorem laws_vCut_fok : FunOK Try.prog 13 := funOK Try.func13 (by kernel_rfl) rfl
theorem laws_vCut_meets (F : Nat) : Meets Try.prog 13 (laws_vCut_ent F) := by
  refine meets_of_runS mixed ttok deep (laws_vCut_tabok F) Try.func13 (body_some rfl) (laws_vCut_lsok0 F) fun args mem hfit ret h => ?_
  clear hfit
  simp only [laws_vCut_ent] at h
  split at h
  · rename_i code0 n1
    simp only [Option.some.injEq, Prod.mk.injEq] at h
    obtain ⟨hc, rfl⟩ := h
    exact ⟨[], [], 70, _, (laws_vCut_run F code0 n1).trans ((laws_vCut_cp _ code0 n1 _).trans (bind_use hc _)), rfl, rfl, rfl⟩
  · cases h

/-! loop.example/g01194/spec.DrawIsPossible -/
noncomputable def spec_DrawIsPossible_tab (F : Nat) : Tab := [(26, (spec_l1Cur_sum7_ent F)), (37, (spec_l1Cur_pick_ent F)), (36, (spec_l1Cur_among_ent F))]
theorem spec_DrawIsPossible_tabok (F : Nat) : TabOK Try.prog (spec_DrawIsPossible_tab F) := (tab_cons (spec_l1Cur_sum7_meets F) spec_l1Cur_sum7_fok (tab_cons (spec_l1Cur_pick_meets F) spec_l1Cur_pick_fok (tab_cons (spec_l1Cur_among_meets F) spec_l1Cur_among_fok tab_nil)))
noncomputable def spec_DrawIsPossible_LS0 (F : Nat) : LT := []
theorem spec_DrawIsPossible_lsok0 (F : Nat) : LoopsOK Try.prog (spec_DrawIsPossible_LS0 F) (bodyOf Try.f12) := loopsOK_nil
theorem spec_DrawIsPossible_run (F : Nat) (code0 : List Int) : runS tt (spec_DrawIsPossible_tab F) (spec_DrawIsPossible_LS0 F) [] [] Try.f12 (bodyOf Try.f12) 70 [(.ri .u8 code0)] [] = spec_DrawIsPossible_c _ code0 (fun r => some ⟨(.tup [(.int .i64 r.1), (.int .i64 r.2)]), [], []⟩) := by kernel_rfl
def spec_DrawIsPossible_ent (F : Nat) : Ent := ⟨[], .quiet, fun args mem => match args, mem with
  | [(.ri .u8 code0)], [] => some ((spec_DrawIsPossible_p code0).isSome, ⟨(.tup [(.int .i64 ((spec_DrawIsPossible_p code0).getD default).1), (.int .i64 ((spec_DrawIsPossible_p code0).getD default).2)]), [], []⟩)
  | _, _ => none⟩
theorem spec_DrawIsPossible_fok : FunOK Try.prog 12 := funOK Try.func12 (by kernel_rfl) rfl
theorem spec_DrawIsPossible_meets (F : Nat) : Meets Try.prog 12 (spec_DrawIsPossible_ent F) := by
  refine meets_of_runS mixed ttok deep (spec_DrawIsPossible_tabok F) Try.func12 (body_some rfl) (spec_DrawIsPossible_lsok0 F) fun args mem hfit ret h => ?_
  clear hfit
  simp only [spec_DrawIsPossible_ent] at h
  split at h
  · rename_i code0
    simp only [Option.some.injEq, Prod.mk.injEq] at h
    obtain ⟨hc, rfl⟩ := h
    exact ⟨[], [], 70, _, (spec_DrawIsPossible_run F code0).trans ((spec_DrawIsPossible_cp _ code0 _).trans (bind_use hc _)), rfl, rfl, rfl⟩
  · cases h

/-! loop.example/g01194/impl.IsPossible -/
noncomputable def impl_IsPossible_tab (F : Nat) : Tab := [(38, (impl_isSum_ent F)), (39, (impl_in_ent F)), (28, (impl_leastTiles_ent F))]
theorem impl_IsPossible_tabok (F : Nat) : TabOK Try.prog (impl_IsPossible_tab F) := (tab_cons (impl_isSum_meets F) impl_isSum_fok (tab_cons (impl_in_meets F) impl_in_fok (tab_cons (impl_leastTiles_meets F) impl_leastTiles_fok tab_nil)))
noncomputable def impl_IsPossible_LS0 (F : Nat) : LT := []
theorem impl_IsPossible_lsok0 (F : Nat) : LoopsOK Try.prog (impl_IsPossible_LS0 F) (bodyOf Try.f14) := loopsOK_nil
theorem impl_IsPossible_run (F : Nat) (sum0 : Int) (many1 : Int) : runS tt (impl_IsPossible_tab F) (impl_IsPossible_LS0 F) [] [] Try.f14 (bodyOf Try.f14) 70 [(.int .i64 sum0), (.int .i64 many1)] [] = impl_IsPossible_c _ sum0 many1 (fun r => some ⟨(.tup [(.bool r.1), (.bool r.2)]), [], []⟩) := by kernel_rfl
def impl_IsPossible_ent (F : Nat) : Ent := ⟨[], .quiet, fun args mem => match args, mem with
  | [(.int .i64 sum0), (.int .i64 many1)], [] => some (true, ⟨(.tup [(.bool (impl_IsPossible_v sum0 many1).1), (.bool (impl_IsPossible_v sum0 many1).2)]), [], []⟩)
  | _, _ => none⟩
theorem impl_IsPossible_fok : FunOK Try.prog 14 := funOK Try.func14 (by kernel_rfl) rfl
theorem impl_IsPossible_meets (F : Nat) : Meets Try.prog 14 (impl_IsPossible_ent F) := by
  refine meets_of_runS mixed ttok deep (impl_IsPossible_tabok F) Try.func14 (body_some rfl) (impl_IsPossible_lsok0 F) fun args mem hfit ret h => ?_
  clear hfit
  simp only [impl_IsPossible_ent] at h
  split at h
  · rename_i sum0 many1
    simp only [Option.some.injEq, Prod.mk.injEq] at h
    obtain ⟨hc, rfl⟩ := h
    exact ⟨[], [], 70, _, (impl_IsPossible_run F sum0 many1).trans (impl_IsPossible_cv _ sum0 many1 _), rfl, rfl, rfl⟩
  · cases h

/-! loop.example/g01194/spec.IsPossible -/
noncomputable def spec_IsPossible_tab (F : Nat) : Tab := [(40, (spec_l1In_ent F)), (30, (spec_l7Least_ent F))]
theorem spec_IsPossible_tabok (F : Nat) : TabOK Try.prog (spec_IsPossible_tab F) := (tab_cons (spec_l1In_meets F) spec_l1In_fok (tab_cons (spec_l7Least_meets F) spec_l7Least_fok tab_nil))
noncomputable def spec_IsPossible_LS0 (F : Nat) : LT := []
theorem spec_IsPossible_lsok0 (F : Nat) : LoopsOK Try.prog (spec_IsPossible_LS0 F) (bodyOf Try.f15) := loopsOK_nil
theorem spec_IsPossible_run (F : Nat) (sum0 : Int) (many1 : Int) : runS tt (spec_IsPossible_tab F) (spec_IsPossible_LS0 F) [] [] Try.f15 (bodyOf Try.f15) 70 [(.int .i64 sum0), (.int .i64 many1)] [] = spec_IsPossible_c _ F sum0 many1 (fun r => some ⟨(.tup [(.bool r.1), (.bool r.2)]), [], []⟩) := by kernel_rfl
def spec_IsPossible_ent (F : Nat) : Ent := ⟨[], .quiet, fun args mem => match args, mem with
  | [(.int .i64 sum0), (.int .i64 many1)], [] => some ((spec_IsPossible_p F sum0 many1).isSome, ⟨(.tup [(.bool ((spec_IsPossible_p F sum0 many1).getD default).1), (.bool ((spec_IsPossible_p F sum0 many1).getD default).2)]), [], []⟩)
  | _, _ => none⟩
theorem spec_IsPossible_fok : FunOK Try.prog 15 := funOK Try.func15 (by kernel_rfl) rfl
theorem spec_IsPossible_meets (F : Nat) : Meets Try.prog 15 (spec_IsPossible_ent F) := by
  refine meets_of_runS mixed ttok deep (spec_IsPossible_tabok F) Try.func15 (body_some rfl) (spec_IsPossible_lsok0 F) fun args mem hfit ret h => ?_
  clear hfit
  simp only [spec_IsPossible_ent] at h
  split at h
  · rename_i sum0 many1
    simp only [Option.some.injEq, Prod.mk.injEq] at h
    obtain ⟨hc, rfl⟩ := h
    exact ⟨[], [], 70, _, (spec_IsPossible_run F sum0 many1).trans ((spec_IsPossible_cp _ F sum0 many1 _).trans (bind_use hc _)), rfl, rfl, rfl⟩
  · cases h

/-! (*loop.example/g01194/spec.l1Cur).tile -/
noncomputable def spec_l1Cur_tile_tab (F : Nat) : Tab := [(36, (spec_l1Cur_among_ent F))]
theorem spec_l1Cur_tile_tabok (F : Nat) : TabOK Try.prog (spec_l1Cur_tile_tab F) := (tab_cons (spec_l1Cur_among_meets F) spec_l1Cur_among_fok tab_nil)
noncomputable def spec_l1Cur_tile_LS0 (F : Nat) : LT := []
theorem spec_l1Cur_tile_lsok0 (F : Nat) : LoopsOK Try.prog (spec_l1Cur_tile_LS0 F) (bodyOf Try.f72) := loopsOK_nil
theorem spec_l1Cur_tile_run (F : Nat) (c3 : List Int) (c4 : Int) (c5 : Int) : runS tt (spec_l1Cur_tile_tab F) (spec_l1Cur_tile_LS0 F) [] [] Try.f72 (bodyOf Try.f72) 70 [(.ptr 0 0 0 3)] [(.var 3 (.rv [(.ri .u8 c3), (.int .i64 c4), (.int .u64 c5)]))] = spec_l1Cur_tile_c _ c3 c4 c5 (fun r => some ⟨(.int .i64 r.1), [(.var 3 (.rv [(.ri .u8 c3), (.int .i64 r.2.1), (.int .u64 r.2.2)]))], []⟩) := by kernel_rfl
def spec_l1Cur_tile_ent (F : Nat) : Ent := ⟨[], .loud, fun args mem => match args, mem with
  | [(.ptr 0 0 0 3)], [(.var 3 (.rv [(.ri .u8 c3), (.int .i64 c4), (.int .u64 c5)]))] => some ((spec_l1Cur_tile_p c3 c4 c5).isSome, ⟨(.int .i64 ((spec_l1Cur_tile_p c3 c4 c5).getD default).1), [(.var 3 (.rv [(.ri .u8 c3), (.int .i64 ((spec_l1Cur_tile_p c3 c4 c5).getD default).2.1), (.int .u64 ((spec_l1Cur_tile_p c3 c4 c5).getD default).2.2)]))], []⟩)
  | _, _ => none⟩
theorem spec_l1Cur_tile_fok : FunOK Try.prog 72 := funOK Try.func72 (by kernel_rfl) rfl
theorem spec_l1Cur_tile_meets (F : Nat) : Meets Try.prog 72 (spec_l1Cur_tile_ent F) := by
  refine meets_of_runS mixed ttok deep (spec_l1Cur_tile_tabok F) Try.func72 (body_some rfl) (spec_l1Cur_tile_lsok0 F) fun args mem hfit ret h => ?_
  clear hfit
  simp only [spec_l1Cur_tile_ent] at h
  split at h
  · rename_i c3 c4 c5
    simp only [Option.some.injEq, Prod.mk.injEq] at h
    obtain ⟨hc, rfl⟩ := h
    exact ⟨[], [], 70, _, (spec_l1Cur_tile_run F c3 c4 c5).trans ((spec_l1Cur_tile_cp _ c3 c4 c5 _).trans (bind_use hc _)), rfl, rfl, rfl⟩
  · cases h

/-! (*loop.example/g01194/spec.l1Cur).board -/
noncomputable def spec_l1Cur_board_tab (F : Nat) : Tab := [(53, (spec_l1Cur_one_ent F)), (72, (spec_l1Cur_tile_ent F)), (37, (spec_l1Cur_pick_ent F)), (36, (spec_l1Cur_among_ent F))]
theorem spec_l1Cur_board_tabok (F : Nat) : TabOK Try.prog (spec_l1Cur_board_tab F) := (tab_cons (spec_l1Cur_one_meets F) spec_l1Cur_one_fok (tab_cons (spec_l1Cur_tile_meets F) spec_l1Cur_tile_fok (tab_cons (spec_l1Cur_pick_meets F) spec_l1Cur_pick_fok (tab_cons (spec_l1Cur_among_meets F) spec_l1Cur_among_fok tab_nil))))
noncomputable def spec_l1Cur_board_LS0 (F : Nat) : LT := []
theorem spec_l1Cur_board_lsok0 (F : Nat) : LoopsOK Try.prog (spec_l1Cur_board_LS0 F) (bodyOf Try.f59) := loopsOK_nil
theorem spec_l1Cur_board_keys : keysOK (bodyOf Try.f59) = true := by kernel_rfl
def spec_l1Cur_board_st6 (few9 : Bool) (full10 : Bool) (r11 : Int) (c13 : List Int) (k12 : Int) (c14 : Int) (c15 : Int) (b17 : List Int) : St := ⟨expand 110 0 [0, 2, 3, 4, 5, 6, 7] [(.ptr 0 0 0 3), (.ptr 1 0 0 16), (.ptr 2 0 0 16), (.bool few9), (.bool full10), (.int .i64 r11), (.int .i64 k12)], [(.var 3 (.rv [(.ri .u8 c13), (.int .i64 c14), (.int .u64 c15)])), (.var 16 (.ri .i64 [(0 : Int), (0 : Int), (0 : Int), (0 : Int), (0 : Int), (0 : Int), (0 : Int), (0 : Int), (0 : Int), (0 : Int), (0 : Int), (0 : Int), (0 : Int), (0 : Int), (0 : Int), (0 : Int)])), (.var 16 (.ri .i64 b17))], 1, []⟩
def spec_l1Cur_board_o6 (few9 : Bool) (full10 : Bool) (r11 : Int) (c13 : List Int) (x : Int × Int × List Int) : GT := (.out (.exit 2 ⟨expand 110 0 [0, 2, 3, 4, 5, 6] [(.ptr 0 0 0 3), (.ptr 1 0 0 16), (.ptr 2 0 0 16), (.bool few9), (.bool full10), (.int .i64 r11)], [(.var 3 (.rv [(.ri .u8 c13), (.int .i64 x.1), (.int .u64 x.2.1)])), (.var 16 (.ri .i64 [(0 : Int), (0 : Int), (0 : Int), (0 : Int), (0 : Int), (0 : Int), (0 : Int), (0 : Int), (0 : Int), (0 : Int), (0 : Int), (0 : Int), (0 : Int), (0 : Int), (0 : Int), (0 : Int)])), (.var 16 (.ri .i64 x.2.2))], 1, []⟩))
def spec_l1Cur_board_ls6 (F : Nat) : LoopS := ⟨110, [0, 2, 3, 4, 5, 6, 7], [], [0, 2, 3, 4, 5, 6], [], [2], [], [], fun vals mem np killed => match vals, mem, np, killed with
  | [(.ptr 0 0 0 3), (.ptr 1 0 0 16), (.ptr 2 0 0 16), (.bool few9), (.bool full10), (.int .i64 r11), (.int .i64 k12)], [(.var 3 (.rv [(.ri .u8 c13), (.int .i64 c14), (.int .u64 c15)])), (.var 16 (.ri .i64 q_t216)), (.var 16 (.ri .i64 b17))], 1, [] => .br ((q_t216 == ([(0 : Int), (0 : Int), (0 : Int), (0 : Int), (0 : Int), (0 : Int), (0 : Int), (0 : Int), (0 : Int), (0 : Int), (0 : Int), (0 : Int), (0 : Int), (0 : Int), (0 : Int), (0 : Int)] : List Int)) && (spec_l1Cur_board_l6 F few9 full10 r11 c13 k12 c14 c15 b17).isSome) (spec_l1Cur_board_o6 few9 full10 r11 c13 ((spec_l1Cur_board_l6 F few9 full10 r11 c13 k12 c14 c15 b17).getD default)) .fail
  | _, _, _, _ => .fail⟩
theorem spec_l1Cur_board_step6 (F : Nat) (few9 : Bool) (full10 : Bool) (r11 : Int) (c13 : List Int) (k12 : Int) (c14 : Int) (c15 : Int) (b17 : List Int) {R : Type} (k : Out → Option R) : stepS tt (spec_l1Cur_board_tab F) (spec_l1Cur_board_LS0 F) 70 (spec_l1Cur_board_ls6 F) (loopAt 6 (bodyOf Try.f59)) (spec_l1Cur_board_st6 few9 full10 r11 c13 k12 c14 c15 b17) k = spec_l1Cur_board_s6 F few9 full10 r11 c13 R (k12, c14, c15, b17) (fun s => k (.norm (spec_l1Cur_board_st6 few9 full10 r11 c13 s.1 s.2.1 s.2.2.1 s.2.2.2))) (fun x => (spec_l1Cur_board_o6 few9 full10 r11 c13 x).run k) := by kernel_rfl
theorem spec_l1Cur_board_iter6 (F : Nat) (few9 : Bool) (full10 : Bool) (r11 : Int) (c13 : List Int) {R : Type} (k : Out → Option R) : ∀ (n : Nat) (k12 : Int) (c14 : Int) (c15 : Int) (b17 : List Int), iterS tt (spec_l1Cur_board_tab F) (spec_l1Cur_board_LS0 F) 70 (spec_l1Cur_board_ls6 F) (loopAt 6 (bodyOf Try.f59)) n (spec_l1Cur_board_st6 few9 full10 r11 c13 k12 c14 c15 b17) k = loopC (spec_l1Cur_board_s6 F few9 full10 r11 c13) n (k12, c14, c15, b17) (fun x => (spec_l1Cur_board_o6 few9 full10 r11 c13 x).run k)
  | 0, k12, c14, c15, b17 => rfl
  | n + 1, k12, c14, c15, b17 => (iterS_succ tt (spec_l1Cur_board_tab F) (spec_l1Cur_board_LS0 F) 70 (spec_l1Cur_board_ls6 F) (loopAt 6 (bodyOf Try.f59)) n (spec_l1Cur_board_st6 few9 full10 r11 c13 k12 c14 c15 b17) k).trans ((spec_l1Cur_board_step6 F few9 full10 r11 c13 k12 c14 c15 b17 (nextK (iterS tt (spec_l1Cur_board_tab F) (spec_l1Cur_board_LS0 F) 70 (spec_l1Cur_board_ls6 F) (loopAt 6 (bodyOf Try.f59)) n) k)).trans (congrArg (fun kn => spec_l1Cur_board_s6 F few9 full10 r11 c13 R (k12, c14, c15, b17) kn _) (funext (fun ⟨k12, c14, c15, b17⟩ => spec_l1Cur_board_iter6 F few9 full10 r11 c13 k n k12 c14 c15 b17))))
theorem spec_l1Cur_board_lok6 (F : Nat) : LoopOK Try.prog (loopAt 6 (bodyOf Try.f59)) (spec_l1Cur_board_ls6 F) := by
  refine loopOK_of mixed ttok deep (spec_l1Cur_board_tabok F) (loopsOK_at (spec_l1Cur_board_lsok0 F) 6) (fuel := 70) fun R vals mem np killed k x h => ?_
  simp only [spec_l1Cur_board_ls6] at h
  split at h
  · rename_i few9 full10 r11 k12 c13 c14 c15 q_t216 b17
    simp only [GT.run] at h
    have hc := (cond_noneL h).1
    replace h := (cond_noneL h).2
    have hg := (and_split hc).1
    replace hc := (and_split hc).2
    obtain rfl := beq_li hg
    refine ⟨F, (spec_l1Cur_board_iter6 F few9 full10 r11 c13 k F k12 c14 c15 b17).trans ((loopC_use (spec_l1Cur_board_s6_nat F few9 full10 r11 c13) hc _).trans h)⟩
  · simp only [GT.run] at h
    cases h
noncomputable def spec_l1Cur_board_LS1 (F : Nat) : LT := (6, spec_l1Cur_board_ls6 F) :: spec_l1Cur_board_LS0 F
theorem spec_l1Cur_board_lsok1 (F : Nat) : LoopsOK Try.prog (spec_l1Cur_board_LS1 F) (bodyOf Try.f59) := loopsOK_cons spec_l1Cur_board_keys (spec_l1Cur_board_lok6 F) (spec_l1Cur_board_lsok0 F)
def spec_l1Cur_board_st3 (few9 : Bool) (full10 : Bool) (c12 : List Int) (r11 : Int) (c13 : Int) (c14 : Int) (b16 : List Int) : St := ⟨expand 110 0 [0, 2, 3, 4, 5, 6] [(.ptr 0 0 0 3), (.ptr 1 0 0 16), (.ptr 2 0 0 16), (.bool few9), (.bool full10), (.int .i64 r11)], [(.var 3 (.rv [(.ri .u8 c12), (.int .i64 c13), (.int .u64 c14)])), (.var 16 (.ri .i64 [(0 : Int), (0 : Int), (0 : Int), (0 : Int), (0 : Int), (0 : Int), (0 : Int), (0 : Int), (0 : Int), (0 : Int), (0 : Int), (0 : Int), (0 : Int), (0 : Int), (0 : Int), (0 : Int)])), (.var 16 (.ri .i64 b16))], 1, []⟩
def spec_l1Cur_board_o3 (few9 : Bool) (full10 : Bool) (c12 : List Int) (x : Int × Int × List Int) : GT := (.out (.exit 0 ⟨expand 110 0 [0, 2, 3] [(.ptr 0 0 0 3), (.ptr 1 0 0 16), (.ptr 2 0 0 16)], [(.var 3 (.rv [(.ri .u8 c12), (.int .i64 x.1), (.int .u64 x.2.1)])), (.var 16 (.ri .i64 [(0 : Int), (0 : Int), (0 : Int), (0 : Int), (0 : Int), (0 : Int), (0 : Int), (0 : Int), (0 : Int), (0 : Int), (0 : Int), (0 : Int), (0 : Int), (0 : Int), (0 : Int), (0 : Int)])), (.var 16 (.ri .i64 x.2.2))], 1, []⟩))
def spec_l1Cur_board_ls3 (F : Nat) : LoopS := ⟨110, [0, 2, 3, 4, 5, 6], [], [0, 2, 3], [], [2], [], [], fun vals mem np killed => match vals, mem, np, killed with
  | [(.ptr 0 0 0 3), (.ptr 1 0 0 16), (.ptr 2 0 0 16), (.bool few9), (.bool full10), (.int .i64 r11)], [(.var 3 (.rv [(.ri .u8 c12), (.int .i64 c13), (.int .u64 c14)])), (.var 16 (.ri .i64 q_t215)), (.var 16 (.ri .i64 b16))], 1, [] => .br ((q_t215 == ([(0 : Int), (0 : Int), (0 : Int), (0 : Int), (0 : Int), (0 : Int), (0 : Int), (0 : Int), (0 : Int), (0 : Int), (0 : Int), (0 : Int), (0 : Int), (0 : Int), (0 : Int), (0 : Int)] : List Int)) && (spec_l1Cur_board_l3 F few9 full10 c12 r11 c13 c14 b16).isSome) (spec_l1Cur_board_o3 few9 full10 c12 ((spec_l1Cur_board_l3 F few9 full10 c12 r11 c13 c14 b16).getD default)) .fail
  | _, _, _, _ => .fail⟩
theorem spec_l1Cur_board_step3 (F : Nat) (few9 : Bool) (full10 : Bool) (c12 : List Int) (r11 : Int) (c13 : Int) (c14 : Int) (b16 : List Int) {R : Type} (k : Out → Option R) : stepS tt (spec_l1Cur_board_tab F) (spec_l1Cur_board_LS1 F) 70 (spec_l1Cur_board_ls3 F) (loopAt 3 (bodyOf Try.f59)) (spec_l1Cur_board_st3 few9 full10 c12 r11 c13 c14 b16) k = spec_l1Cur_board_s3 F few9 full10 c12 R (r11, c13, c14, b16) (fun s => k (.norm (spec_l1Cur_board_st3 few9 full10 c12 s.1 s.2.1 s.2.2.1 s.2.2.2))) (fun x => (spec_l1Cur_board_o3 few9 full10 c12 x).run k) := by kernel_rfl
theorem spec_l1Cur_board_iter3 (F : Nat) (few9 : Bool) (full10 : Bool) (c12 : List Int) {R : Type} (k : Out → Option R) : ∀ (n : Nat) (r11 : Int) (c13 : Int) (c14 : Int) (b16 : List Int), iterS tt (spec_l1Cur_board_tab F) (spec_l1Cur_board_LS1 F) 70 (spec_l1Cur_board_ls3 F) (loopAt 3 (bodyOf Try.f59)) n (spec_l1Cur_board_st3 few9 full10 c12 r11 c13 c14 b16) k = loopC (spec_l1Cur_board_s3 F few9 full10 c12) n (r11, c13, c14, b16) (fun x => (spec_l1Cur_board_o3 few9 full10 c12 x).run k)
  | 0, r11, c13, c14, b16 => rfl
  | n + 1, r11, c13, c14, b16 => (iterS_succ tt (spec_l1Cur_board_tab F) (spec_l1Cur_board_LS1 F) 70 (spec_l1Cur_board_ls3 F) (loopAt 3 (bodyOf Try.f59)) n (spec_l1Cur_board_st3 few9 full10 c12 r11 c13 c14 b16) k).trans ((spec_l1Cur_board_step3 F few9 full10 c12 r11 c13 c14 b16 (nextK (iterS tt (spec_l1Cur_board_tab F) (spec_l1Cur_board_LS1 F) 70 (spec_l1Cur_board_ls3 F) (loopAt 3 (bodyOf Try.f59)) n) k)).trans (congrArg (fun kn => spec_l1Cur_board_s3 F few9 full10 c12 R (r11, c13, c14, b16) kn _) (funext (fun ⟨r11, c13, c14, b16⟩ => spec_l1Cur_board_iter3 F few9 full10 c12 k n r11 c13 c14 b16))))
theorem spec_l1Cur_board_lok3 (F : Nat) : LoopOK Try.prog (loopAt 3 (bodyOf Try.f59)) (spec_l1Cur_board_ls3 F) := by
  refine loopOK_of mixed ttok deep (spec_l1Cur_board_tabok F) (loopsOK_at (spec_l1Cur_board_lsok1 F) 3) (fuel := 70) fun R vals mem np killed k x h => ?_
  simp only [spec_l1Cur_board_ls3] at h
  split at h
  · rename_i few9 full10 r11 c12 c13 c14 q_t215 b16
    simp only [GT.run] at h
    have hc := (cond_noneL h).1
    replace h := (cond_noneL h).2
    have hg := (and_split hc).1
    replace hc := (and_split hc).2
    obtain rfl := beq_li hg
    refine ⟨F, (spec_l1Cur_board_iter3 F few9 full10 c12 k F r11 c13 c14 b16).trans ((loopC_use (spec_l1Cur_board_s3_nat F few9 full10 c12) hc _).trans h)⟩
  · simp only [GT.run] at h
    cases h
noncomputable def spec_l1Cur_board_LS2 (F : Nat) : LT := (3, spec_l1Cur_board_ls3 F) :: spec_l1Cur_board_LS1 F
theorem spec_l1Cur_board_lsok2 (F : Nat) : LoopsOK Try.prog (spec_l1Cur_board_LS2 F) (bodyOf Try.f59) := loopsOK_cons spec_l1Cur_board_keys (spec_l1Cur_board_lok3 F) (spec_l1Cur_board_lsok1 F)
def spec_l1Cur_board_st29 (r9 : Int) (c11 : List Int) (k10 : Int) (c12 : Int) (c13 : Int) (b15 : List Int) : St := ⟨expand 110 0 [0, 2, 3, 11, 12] [(.ptr 0 0 0 3), (.ptr 1 0 0 16), (.ptr 2 0 0 16), (.int .i64 r9), (.int .i64 k10)], [(.var 3 (.rv [(.ri .u8 c11), (.int .i64 c12), (.int .u64 c13)])), (.var 16 (.ri .i64 [(0 : Int), (0 : Int), (0 : Int), (0 : Int), (0 : Int), (0 : Int), (0 : Int), (0 : Int), (0 : Int), (0 : Int), (0 : Int), (0 : Int), (0 : Int), (0 : Int), (0 : Int), (0 : Int)])), (.var 16 (.ri .i64 b15))], 1, []⟩
def spec_l1Cur_board_o29 (r9 : Int) (c11 : List Int) (x : Int × Int × List Int) : GT := (.out (.exit 7 ⟨expand 110 0 [0, 2, 3, 11] [(.ptr 0 0 0 3), (.ptr 1 0 0 16), (.ptr 2 0 0 16), (.int .i64 r9)], [(.var 3 (.rv [(.ri .u8 c11), (.int .i64 x.1), (.int .u64 x.2.1)])), (.var 16 (.ri .i64 [(0 : Int), (0 : Int), (0 : Int), (0 : Int), (0 : Int), (0 : Int), (0 : Int), (0 : Int), (0 : Int), (0 : Int), (0 : Int), (0 : Int), (0 : Int), (0 : Int), (0 : Int), (0 : Int)])), (.var 16 (.ri .i64 x.2.2))], 1, []⟩))
def spec_l1Cur_board_ls29 (F : Nat) : LoopS := ⟨110, [0, 2, 3, 11, 12], [], [0, 2, 3, 11], [], [2], [], [], fun vals mem np killed => match vals, mem, np, killed with
  | [(.ptr 0 0 0 3), (.ptr 1 0 0 16), (.ptr 2 0 0 16), (.int .i64 r9), (.int .i64 k10)], [(.var 3 (.rv [(.ri .u8 c11), (.int .i64 c12), (.int .u64 c13)])), (.var 16 (.ri .i64 q_t214)), (.var 16 (.ri .i64 b15))], 1, [] => .br ((q_t214 == ([(0 : Int), (0 : Int), (0 : Int), (0 : Int), (0 : Int), (0 : Int), (0 : Int), (0 : Int), (0 : Int), (0 : Int), (0 : Int), (0 : Int), (0 : Int), (0 : Int), (0 : Int), (0 : Int)] : List Int)) && (spec_l1Cur_board_l29 F r9 c11 k10 c12 c13 b15).isSome) (spec_l1Cur_board_o29 r9 c11 ((spec_l1Cur_board_l29 F r9 c11 k10 c12 c13 b15).getD default)) .fail
  | _, _, _, _ => .fail⟩
theorem spec_l1Cur_board_step29 (F : Nat) (r9 : Int) (c11 : List Int) (k10 : Int) (c12 : Int) (c13 : Int) (b15 : List Int) {R : Type} (k : Out → Option R) : stepS tt (spec_l1Cur_board_tab F) (spec_l1Cur_board_LS2 F) 70 (spec_l1Cur_board_ls29 F) (loopAt 29 (bodyOf Try.f59)) (spec_l1Cur_board_st29 r9 c11 k10 c12 c13 b15) k = spec_l1Cur_board_s29 F r9 c11 R (k10, c12, c13, b15) (fun s => k (.norm (spec_l1Cur_board_st29 r9 c11 s.1 s.2.1 s.2.2.1 s.2.2.2))) (fun x => (spec_l1Cur_board_o29 r9 c11 x).run k) := by kernel_rfl
theorem spec_l1Cur_board_iter29 (F : Nat) (r9 : Int) (c11 : List Int) {R : Type} (k : Out → Option R) : ∀ (n : Nat) (k10 : Int) (c12 : Int) (c13 : Int) (b15 : List Int), iterS tt (spec_l1Cur_board_tab F) (spec_l1Cur_board_LS2 F) 70 (spec_l1Cur_board_ls29 F) (loopAt 29 (bodyOf Try.f59)) n (spec_l1Cur_board_st29 r9 c11 k10 c12 c13 b15) k = loopC (spec_l1Cur_board_s29 F r9 c11) n (k10, c12, c13, b15) (fun x => (spec_l1Cur_board_o29 r9 c11 x).run k)
  | 0, k10, c12, c13, b15 => rfl
  | n + 1, k10, c12, c13, b15 => (iterS_succ tt (spec_l1Cur_board_tab F) (spec_l1Cur_board_LS2 F) 70 (spec_l1Cur_board_ls29 F) (loopAt 29 (bodyOf Try.f59)) n (spec_l1Cur_board_st29 r9 c11 k10 c12 c13 b15) k).trans ((spec_l1Cur_board_step29 F r9 c11 k10 c12 c13 b15 (nextK (iterS tt (spec_l1Cur_board_tab F) (spec_l1Cur_board_LS2 F) 70 (spec_l1Cur_board_ls29 F) (loopAt 29 (bodyOf Try.f59)) n) k)).trans (congrArg (fun kn => spec_l1Cur_board_s29 F r9 c11 R (k10, c12, c13, b15) kn _) (funext (fun ⟨k10, c12, c13, b15⟩ => spec_l1Cur_board_iter29 F r9 c11 k n k10 c12 c13 b15))))
theorem spec_l1Cur_board_lok29 (F : Nat) : LoopOK Try.prog (loopAt 29 (bodyOf Try.f59)) (spec_l1Cur_board_ls29 F) := by
  refine loopOK_of mixed ttok deep (spec_l1Cur_board_tabok F) (loopsOK_at (spec_l1Cur_board_lsok2 F) 29) (fuel := 70) fun R vals mem np killed k x h => ?_
  simp only [spec_l1Cur_board_ls29] at h
  split at h
  · rename_i r9 k10 c11 c12 c13 q_t214 b15
    simp only [GT.run] at h
    have hc := (cond_noneL h).1
    replace h := (cond_noneL h).2
    have hg := (and_split hc).1
    replace hc := (and_split hc).2
    obtain rfl := beq_li hg
    refine ⟨F, (spec_l1Cur_board_iter29 F r9 c11 k F k10 c12 c13 b15).trans ((loopC_use (spec_l1Cur_board_s29_nat F r9 c11) hc _).trans h)⟩
  · simp only [GT.run] at h
    cases h
noncomputable def spec_l1Cur_board_LS3 (F : Nat) : LT := (29, spec_l1Cur_board_ls29 F) :: spec_l1Cur_board_LS2 F
theorem spec_l1Cur_board_lsok3 (F : Nat) : LoopsOK Try.prog (spec_l1Cur_board_LS3 F) (bodyOf Try.f59) := loopsOK_cons spec_l1Cur_board_keys (spec_l1Cur_board_lok29 F) (spec_l1Cur_board_lsok2 F)
def spec_l1Cur_board_st26 (c10 : List Int) (r9 : Int) (c11 : Int) (c12 : Int) (b14 : List Int) : St := ⟨expand 110 0 [0, 2, 3, 11] [(.ptr 0 0 0 3), (.ptr 1 0 0 16), (.ptr 2 0 0 16), (.int .i64 r9)], [(.var 3 (.rv [(.ri .u8 c10), (.int .i64 c11), (.int .u64 c12)])), (.var 16 (.ri .i64 [(0 : Int), (0 : Int), (0 : Int), (0 : Int), (0 : Int), (0 : Int), (0 : Int), (0 : Int), (0 : Int), (0 : Int), (0 : Int), (0 : Int), (0 : Int), (0 : Int), (0 : Int), (0 : Int)])), (.var 16 (.ri .i64 b14))], 1, []⟩
def spec_l1Cur_board_o26 (c10 : List Int) (x : Int × Int × List Int) : GT := (.out (.exit 5 ⟨expand 110 0 [2, 3] [(.ptr 1 0 0 16), (.ptr 2 0 0 16)], [(.var 3 (.rv [(.ri .u8 c10), (.int .i64 x.1), (.int .u64 x.2.1)])), (.var 16 (.ri .i64 [(0 : Int), (0 : Int), (0 : Int), (0 : Int), (0 : Int), (0 : Int), (0 : Int), (0 : Int), (0 : Int), (0 : Int), (0 : Int), (0 : Int), (0 : Int), (0 : Int), (0 : Int), (0 : Int)])), (.var 16 (.ri .i64 x.2.2))], 1, []⟩))
def spec_l1Cur_board_ls26 (F : Nat) : LoopS := ⟨110, [0, 2, 3, 11], [], [2, 3], [], [2], [], [], fun vals mem np killed => match vals, mem, np, killed with
  | [(.ptr 0 0 0 3), (.ptr 1 0 0 16), (.ptr 2 0 0 16), (.int .i64 r9)], [(.var 3 (.rv [(.ri .u8 c10), (.int .i64 c11), (.int .u64 c12)])), (.var 16 (.ri .i64 q_t213)), (.var 16 (.ri .i64 b14))], 1, [] => .br ((q_t213 == ([(0 : Int), (0 : Int), (0 : Int), (0 : Int), (0 : Int), (0 : Int), (0 : Int), (0 : Int), (0 : Int), (0 : Int), (0 : Int), (0 : Int), (0 : Int), (0 : Int), (0 : Int), (0 : Int)] : List Int)) && (spec_l1Cur_board_l26 F c10 r9 c11 c12 b14).isSome) (spec_l1Cur_board_o26 c10 ((spec_l1Cur_board_l26 F c10 r9 c11 c12 b14).getD default)) .fail
  | _, _, _, _ => .fail⟩
theorem spec_l1Cur_board_step26 (F : Nat) (c10 : List Int) (r9 : Int) (c11 : Int) (c12 : Int) (b14 : List Int) {R : Type} (k : Out → Option R) : stepS tt (spec_l1Cur_board_tab F) (spec_l1Cur_board_LS3 F) 70 (spec_l1Cur_board_ls26 F) (loopAt 26 (bodyOf Try.f59)) (spec_l1Cur_board_st26 c10 r9 c11 c12 b14) k = spec_l1Cur_board_s26 F c10 R (r9, c11, c12, b14) (fun s => k (.norm (spec_l1Cur_board_st26 c10 s.1 s.2.1 s.2.2.1 s.2.2.2))) (fun x => (spec_l1Cur_board_o26 c10 x).run k) := by kernel_rfl
theorem spec_l1Cur_board_iter26 (F : Nat) (c10 : List Int) {R : Type} (k : Out → Option R) : ∀ (n : Nat) (r9 : Int) (c11 : Int) (c12 : Int) (b14 : List Int), iterS tt (spec_l1Cur_board_tab F) (spec_l1Cur_board_LS3 F) 70 (spec_l1Cur_board_ls26 F) (loopAt 26 (bodyOf Try.f59)) n (spec_l1Cur_board_st26 c10 r9 c11 c12 b14) k = loopC (spec_l1Cur_board_s26 F c10) n (r9, c11, c12, b14) (fun x => (spec_l1Cur_board_o26 c10 x).run k)
  | 0, r9, c11, c12, b14 => rfl
  | n + 1, r9, c11, c12, b14 => (iterS_succ tt (spec_l1Cur_board_tab F) (spec_l1Cur_board_LS3 F) 70 (spec_l1Cur_board_ls26 F) (loopAt 26 (bodyOf Try.f59)) n (spec_l1Cur_board_st26 c10 r9 c11 c12 b14) k).trans ((spec_l1Cur_board_step26 F c10 r9 c11 c12 b14 (nextK (iterS tt (spec_l1Cur_board_tab F) (spec_l1Cur_board_LS3 F) 70 (spec_l1Cur_board_ls26 F) (loopAt 26 (bodyOf Try.f59)) n) k)).trans (congrArg (fun kn => spec_l1Cur_board_s26 F c10 R (r9, c11, c12, b14) kn _) (funext (fun ⟨r9, c11, c12, b14⟩ => spec_l1Cur_board_iter26 F c10 k n r9 c11 c12 b14))))
theorem spec_l1Cur_board_lok26 (F : Nat) : LoopOK Try.prog (loopAt 26 (bodyOf Try.f59)) (spec_l1Cur_board_ls26 F) := by
  refine loopOK_of mixed ttok deep (spec_l1Cur_board_tabok F) (loopsOK_at (spec_l1Cur_board_lsok3 F) 26) (fuel := 70) fun R vals mem np killed k x h => ?_
  simp only [spec_l1Cur_board_ls26] at h
  split at h
  · rename_i r9 c10 c11 c12 q_t213 b14
    simp only [GT.run] at h
    have hc := (cond_noneL h).1
    replace h := (cond_noneL h).2
    have hg := (and_split hc).1
    replace hc := (and_split hc).2
    obtain rfl := beq_li hg
    refine ⟨F, (spec_l1Cur_board_iter26 F c10 k F r9 c11 c12 b14).trans ((loopC_use (spec_l1Cur_board_s26_nat F c10) hc _).trans h)⟩
  · simp only [GT.run] at h
    cases h
noncomputable def spec_l1Cur_board_LS4 (F : Nat) : LT := (26, spec_l1Cur_board_ls26 F) :: spec_l1Cur_board_LS3 F
theorem spec_l1Cur_board_lsok4 (F : Nat) : LoopsOK Try.prog (spec_l1Cur_board_LS4 F) (bodyOf Try.f59) := loopsOK_cons spec_l1Cur_board_keys (spec_l1Cur_board_lok26 F) (spec_l1Cur_board_lsok3 F)
theorem spec_l1Cur_board_run (F : Nat) (c3 : List Int) (c4 : Int) (c5 : Int) : runS tt (spec_l1Cur_board_tab F) (spec_l1Cur_board_LS4 F) [] [] Try.f59 (bodyOf Try.f59) 70 [(.ptr 0 0 0 3)] [(.var 3 (.rv [(.ri .u8 c3), (.int .i64 c4), (.int .u64 c5)]))] = spec_l1Cur_board_c _ F c3 c4 c5 (fun r => some ⟨(.ints 16 r.1), [(.var 3 (.rv [(.ri .u8 c3), (.int .i64 r.2.1), (.int .u64 r.2.2)]))], []⟩) := by kernel_rfl
def spec_l1Cur_board_ent (F : Nat) : Ent := ⟨[], .loud, fun args mem => match args, mem with
  | [(.ptr 0 0 0 3)], [(.var 3 (.rv [(.ri .u8 c3), (.int .i64 c4), (.int .u64 c5)]))] => some ((spec_l1Cur_board_p F c3 c4 c5).isSome, ⟨(.ints 16 ((spec_l1Cur_board_p F c3 c4 c5).getD default).1), [(.var 3 (.rv [(.ri .u8 c3), (.int .i64 ((spec_l1Cur_board_p F c3 c4 c5).getD default).2.1), (.int .u64 ((spec_l1Cur_board_p F c3 c4 c5).getD default).2.2)]))], []⟩)
  | _, _ => none⟩
theorem spec_l1Cur_board_fok : FunOK Try.prog 59 := funOK Try.func59 (by kernel_rfl) rfl
theorem spec_l1Cur_board_meets (F : Nat) : Meets Try.prog 59 (spec_l1Cur_board_ent F) := by
  refine meets_of_runS mixed ttok deep (spec_l1Cur_board_tabok F) Try.func59 (body_some rfl) (spec_l1Cur_board_lsok4 F) fun args mem hfit ret h => ?_
  clear hfit
  simp only [spec_l1Cur_board_ent] at h
  split at h
  · rename_i c3 c4 c5
    simp only [Option.some.injEq, Prod.mk.injEq] at h
    obtain ⟨hc, rfl⟩ := h
    exact ⟨[], [], 70, _, (spec_l1Cur_board_run F c3 c4 c5).trans ((spec_l1Cur_board_cp _ F c3 c4 c5 _).trans (bind_use hc _)), rfl, rfl, rfl⟩
  · cases h

/-! loop.example/g01194/spec.DrawPotentialOf -/
noncomputable def spec_DrawPotentialOf_tab (F : Nat) : Tab := [(59, (spec_l1Cur_board_ent F))]
theorem spec_DrawPotentialOf_tabok (F : Nat) : TabOK Try.prog (spec_DrawPotentialOf_tab F) := (tab_cons (spec_l1Cur_board_meets F) spec_l1Cur_board_fok tab_nil)
noncomputable def spec_DrawPotentialOf_LS0 (F : Nat) : LT := []
theorem spec_DrawPotentialOf_lsok0 (F : Nat) : LoopsOK Try.prog (spec_DrawPotentialOf_LS0 F) (bodyOf Try.f41) := loopsOK_nil
theorem spec_DrawPotentialOf_run (F : Nat) (code0 : List Int) : runS tt (spec_DrawPotentialOf_tab F) (spec_DrawPotentialOf_LS0 F) [] [] Try.f41 (bodyOf Try.f41) 70 [(.ri .u8 code0)] [] = spec_DrawPotentialOf_c _ F code0 (fun r => some ⟨(.ints 16 r), [], []⟩) := by kernel_rfl
def spec_DrawPotentialOf_ent (F : Nat) : Ent := ⟨[], .quiet, fun args mem => match args, mem with
  | [(.ri .u8 code0)], [] => some ((spec_DrawPotentialOf_p F code0).isSome, ⟨(.ints 16 ((spec_DrawPotentialOf_p F code0).getD default)), [], []⟩)
  | _, _ => none⟩
theorem spec_DrawPotentialOf_fok : FunOK Try.prog 41 := funOK Try.func41 (by kernel_rfl) rfl
theorem spec_DrawPotentialOf_meets (F : Nat) : Meets Try.prog 41 (spec_DrawPotentialOf_ent F) := by
  refine meets_of_runS mixed ttok deep (spec_DrawPotentialOf_tabok F) Try.func41 (body_some rfl) (spec_DrawPotentialOf_lsok0 F) fun args mem hfit ret h => ?_
  clear hfit
  simp only [spec_DrawPotentialOf_ent] at h
  split at h
  · rename_i code0
    simp only [Option.some.injEq, Prod.mk.injEq] at h
    obtain ⟨hc, rfl⟩ := h
    exact ⟨[], [], 70, _, (spec_DrawPotentialOf_run F code0).trans ((spec_DrawPotentialOf_cp _ F code0 _).trans (bind_use hc _)), rfl, rfl, rfl⟩
  · cases h

/-! loop.example/g01194/spec.DrawMergersLeft -/
noncomputable def spec_DrawMergersLeft_tab (F : Nat) : Tab := [(41, (spec_DrawPotentialOf_ent F))]
theorem spec_DrawMergersLeft_tabok (F : Nat) : TabOK Try.prog (spec_DrawMergersLeft_tab F) := (tab_cons (spec_DrawPotentialOf_meets F) spec_DrawPotentialOf_fok tab_nil)
noncomputable def spec_DrawMergersLeft_LS0 (F : Nat) : LT := []
theorem spec_DrawMergersLeft_lsok0 (F : Nat) : LoopsOK Try.prog (spec_DrawMergersLeft_LS0 F) (bodyOf Try.f16) := loopsOK_nil
theorem spec_DrawMergersLeft_run (F : Nat) (code0 : List Int) : runS tt (spec_DrawMergersLeft_tab F) (spec_DrawMergersLeft_LS0 F) [] [] Try.f16 (bodyOf Try.f16) 70 [(.ri .u8 code0)] [] = spec_DrawMergersLeft_c _ F code0 (fun r => some ⟨(.ints 16 r), [], []⟩) := by kernel_rfl
def spec_DrawMergersLeft_ent (F : Nat) : Ent := ⟨[], .quiet, fun args mem => match args, mem with
  | [(.ri .u8 code0)], [] => some ((spec_DrawMergersLeft_p F code0).isSome, ⟨(.ints 16 ((spec_DrawMergersLeft_p F code0).getD default)), [], []⟩)
  | _, _ => none⟩
theorem spec_DrawMergersLeft_fok : FunOK Try.prog 16 := funOK Try.func16 (by kernel_rfl) rfl
theorem spec_DrawMergersLeft_meets (F : Nat) : Meets Try.prog 16 (spec_DrawMergersLeft_ent F) := by
  refine meets_of_runS mixed ttok deep (spec_DrawMergersLeft_tabok F) Try.func16 (body_some rfl) (spec_DrawMergersLeft_lsok0 F) fun args mem hfit ret h => ?_
  clear hfit
  simp only [spec_DrawMergersLeft_ent] at h
  split at h
  · rename_i code0
    simp only [Option.some.injEq, Prod.mk.injEq] at h
    obtain ⟨hc, rfl⟩ := h
    exact ⟨[], [], 70, _, (spec_DrawMergersLeft_run F code0).trans ((spec_DrawMergersLeft_cp _ F code0 _).trans (bind_use hc _)), rfl, rfl, rfl⟩
  · cases h

/-! loop.example/g01194/impl.IsRow$1 -/
noncomputable def impl_IsRow_f1_tab (F : Nat) : Tab := [(39, (impl_in_ent F))]
theorem impl_IsRow_f1_tabok (F : Nat) : TabOK Try.prog (impl_IsRow_f1_tab F) := (tab_cons (impl_in_meets F) impl_in_fok tab_nil)
noncomputable def impl_IsRow_f1_LS0 (F : Nat) : LT := []
theorem impl_IsRow_f1_lsok0 (F : Nat) : LoopsOK Try.prog (impl_IsRow_f1_LS0 F) (bodyOf Try.f75) := loopsOK_nil
theorem impl_IsRow_f1_run (F : Nat) (n0 : Int) : runS tt (impl_IsRow_f1_tab F) (impl_IsRow_f1_LS0 F) [] [] Try.f75 (bodyOf Try.f75) 70 [(.int .i64 n0)] [] = impl_IsRow_f1_c _ n0 (fun r => some ⟨(.bool r), [], []⟩) := by kernel_rfl
def impl_IsRow_f1_ent (F : Nat) : Ent := ⟨[], .quiet, fun args mem => match args, mem with
  | [(.int .i64 n0)], [] => some (true, ⟨(.bool (impl_IsRow_f1_v n0)), [], []⟩)
  | _, _ => none⟩
theorem impl_IsRow_f1_fok : FunOK Try.prog 75 := funOK Try.func75 (by kernel_rfl) rfl
theorem impl_IsRow_f1_meets (F : Nat) : Meets Try.prog 75 (impl_IsRow_f1_ent F) := by
  refine meets_of_runS mixed ttok deep (impl_IsRow_f1_tabok F) Try.func75 (body_some rfl) (impl_IsRow_f1_lsok0 F) fun args mem hfit ret h => ?_
  clear hfit
  simp only [impl_IsRow_f1_ent] at h
  split at h
  · rename_i n0
    simp only [Option.some.injEq, Prod.mk.injEq] at h
    obtain ⟨hc, rfl⟩ := h
    exact ⟨[], [], 70, _, (impl_IsRow_f1_run F n0).trans (impl_IsRow_f1_cv _ n0 _), rfl, rfl, rfl⟩
  · cases h

/-! slices.IndexFunc[[]int,int] -/
noncomputable def slices_IndexFunc_intint_impl_IsRow_f1_tab (F : Nat) : Tab := [(75, (impl_IsRow_f1_ent F))]
theorem slices_IndexFunc_intint_impl_IsRow_f1_tabok (F : Nat) : TabOK Try.prog (slices_IndexFunc_intint_impl_IsRow_f1_tab F) := (tab_cons (impl_IsRow_f1_meets F) impl_IsRow_f1_fok tab_nil)
noncomputable def slices_IndexFunc_intint_impl_IsRow_f1_LS0 (F : Nat) : LT := []
theorem slices_IndexFunc_intint_impl_IsRow_f1_lsok0 (F : Nat) : LoopsOK Try.prog (slices_IndexFunc_intint_impl_IsRow_f1_LS0 F) (bodyOf Try.f80) := loopsOK_nil
theorem slices_IndexFunc_intint_impl_IsRow_f1_keys : keysOK (bodyOf Try.f80) = true := by kernel_rfl
def slices_IndexFunc_intint_impl_IsRow_f1_st2 (s0 : List Int) (t71 : Int) (t82 : Int) : St := ⟨expand 19 0 [0, 1, 7, 8] [(.ri .i64 s0), (.fn 75 [] []), (.int .i64 t71), (.int .i64 t82)], [], 0, []⟩
def slices_IndexFunc_intint_impl_IsRow_f1_o2 (s0 : List Int) (t71 : Int) (x : Bool × Int) : GT := (.br x.1 (.out (.ret ⟨expand 19 0 [4] [(.int .i64 x.2)], [], 0, []⟩)) (.out (.exit 0 ⟨expand 19 0 [] [], [], 0, []⟩)))
def slices_IndexFunc_intint_impl_IsRow_f1_ls2 (F : Nat) : LoopS := ⟨19, [0, 1, 7, 8], [], [], [], [4], [], [], fun vals mem np killed => match vals, mem, np, killed with
  | [(.ri .i64 s0), (.fn 75 [] []), (.int .i64 t71), (.int .i64 t82)], [], 0, [] => .br (slices_IndexFunc_intint_impl_IsRow_f1_l2 F s0 t71 t82).isSome (slices_IndexFunc_intint_impl_IsRow_f1_o2 s0 t71 ((slices_IndexFunc_intint_impl_IsRow_f1_l2 F s0 t71 t82).getD default)) .fail
  | _, _, _, _ => .fail⟩
theorem slices_IndexFunc_intint_impl_IsRow_f1_step2 (F : Nat) (s0 : List Int) (t71 : Int) (t82 : Int) {R : Type} (k : Out → Option R) : stepS tt (slices_IndexFunc_intint_impl_IsRow_f1_tab F) (slices_IndexFunc_intint_impl_IsRow_f1_LS0 F) 70 (slices_IndexFunc_intint_impl_IsRow_f1_ls2 F) (loopAt 2 (bodyOf Try.f80)) (slices_IndexFunc_intint_impl_IsRow_f1_st2 s0 t71 t82) k = slices_IndexFunc_intint_impl_IsRow_f1_s2 F s0 t71 R t82 (fun s => k (.norm (slices_IndexFunc_intint_impl_IsRow_f1_st2 s0 t71 s))) (fun x => (slices_IndexFunc_intint_impl_IsRow_f1_o2 s0 t71 x).run k) := by kernel_rfl
theorem slices_IndexFunc_intint_impl_IsRow_f1_iter2 (F : Nat) (s0 : List Int) (t71 : Int) {R : Type} (k : Out → Option R) : ∀ (n : Nat) (t82 : Int), iterS tt (slices_IndexFunc_intint_impl_IsRow_f1_tab F) (slices_IndexFunc_intint_impl_IsRow_f1_LS0 F) 70 (slices_IndexFunc_intint_impl_IsRow_f1_ls2 F) (loopAt 2 (bodyOf Try.f80)) n (slices_IndexFunc_intint_impl_IsRow_f1_st2 s0 t71 t82) k = loopC (slices_IndexFunc_intint_impl_IsRow_f1_s2 F s0 t71) n t82 (fun x => (slices_IndexFunc_intint_impl_IsRow_f1_o2 s0 t71 x).run k)
  | 0, t82 => rfl
  | n + 1, t82 => (iterS_succ tt (slices_IndexFunc_intint_impl_IsRow_f1_tab F) (slices_IndexFunc_intint_impl_IsRow_f1_LS0 F) 70 (slices_IndexFunc_intint_impl_IsRow_f1_ls2 F) (loopAt 2 (bodyOf Try.f80)) n (slices_IndexFunc_intint_impl_IsRow_f1_st2 s0 t71 t82) k).trans ((slices_IndexFunc_intint_impl_IsRow_f1_step2 F s0 t71 t82 (nextK (iterS tt (slices_IndexFunc_intint_impl_IsRow_f1_tab F) (slices_IndexFunc_intint_impl_IsRow_f1_LS0 F) 70 (slices_IndexFunc_intint_impl_IsRow_f1_ls2 F) (loopAt 2 (bodyOf Try.f80)) n) k)).trans (congrArg (fun kn => slices_IndexFunc_intint_impl_IsRow_f1_s2 F s0 t71 R t82 kn _) (funext (fun t82 => slices_IndexFunc_intint_impl_IsRow_f1_iter2 F s0 t71 k n t82))))
theorem slices_IndexFunc_intint_impl_IsRow_f1_lok2 (F : Nat) : LoopOK Try.prog (loopAt 2 (bodyOf Try.f80)) (slices_IndexFunc_intint_impl_IsRow_f1_ls2 F) := by
  refine loopOK_of mixed ttok deep (slices_IndexFunc_intint_impl_IsRow_f1_tabok F) (loopsOK_at (slices_IndexFunc_intint_impl_IsRow_f1_lsok0 F) 2) (fuel := 70) fun R vals mem np killed k x h => ?_
  simp only [slices_IndexFunc_intint_impl_IsRow_f1_ls2] at h
  split at h
  · rename_i s0 t71 t82
    simp only [GT.run] at h
    have hc := (cond_noneL h).1
    replace h := (cond_noneL h).2
    refine ⟨F, (slices_IndexFunc_intint_impl_IsRow_f1_iter2 F s0 t71 k F t82).trans ((loopC_use (slices_IndexFunc_intint_impl_IsRow_f1_s2_nat F s0 t71) hc _).trans h)⟩
  · simp only [GT.run] at h
    cases h
noncomputable def slices_IndexFunc_intint_impl_IsRow_f1_LS1 (F : Nat) : LT := (2, slices_IndexFunc_intint_impl_IsRow_f1_ls2 F) :: slices_IndexFunc_intint_impl_IsRow_f1_LS0 F
theorem slices_IndexFunc_intint_impl_IsRow_f1_lsok1 (F : Nat) : LoopsOK Try.prog (slices_IndexFunc_intint_impl_IsRow_f1_LS1 F) (bodyOf Try.f80) := loopsOK_cons slices_IndexFunc_intint_impl_IsRow_f1_keys (slices_IndexFunc_intint_impl_IsRow_f1_lok2 F) (slices_IndexFunc_intint_impl_IsRow_f1_lsok0 F)
theorem slices_IndexFunc_intint_impl_IsRow_f1_run (F : Nat) (s0 : List Int) : runS tt (slices_IndexFunc_intint_impl_IsRow_f1_tab F) (slices_IndexFunc_intint_impl_IsRow_f1_LS1 F) [] [] Try.f80 (bodyOf Try.f80) 70 [(.ri .i64 s0), (.fn 75 [] [])] [] = slices_IndexFunc_intint_impl_IsRow_f1_c _ F s0 (fun r => some ⟨(.int .i64 r), [], []⟩) := by kernel_rfl
def slices_IndexFunc_intint_impl_IsRow_f1_ent (F : Nat) : Ent := ⟨[], .quiet, fun args mem => match args, mem with
  | [(.ri .i64 s0), (.fn 75 [] [])], [] => some ((slices_IndexFunc_intint_impl_IsRow_f1_p F s0).isSome, ⟨(.int .i64 ((slices_IndexFunc_intint_impl_IsRow_f1_p F s0).getD default)), [], []⟩)
  | _, _ => none⟩
theorem slices_IndexFunc_intint_impl_IsRow_f1_fok : FunOK Try.prog 80 := funOK Try.func80 (by kernel_rfl) rfl
theorem slices_IndexFunc_intint_impl_IsRow_f1_meets (F : Nat) : Meets Try.prog 80 (slices_IndexFunc_intint_impl_IsRow_f1_ent F) := by
  refine meets_of_runS mixed ttok deep (slices_IndexFunc_intint_impl_IsRow_f1_tabok F) Try.func80 (body_some rfl) (slices_IndexFunc_intint_impl_IsRow_f1_lsok1 F) fun args mem hfit ret h => ?_
  clear hfit
  simp only [slices_IndexFunc_intint_impl_IsRow_f1_ent] at h
  split at h
  · rename_i s0
    simp only [Option.some.injEq, Prod.mk.injEq] at h
    obtain ⟨hc, rfl⟩ := h
    exact ⟨[], [], 70, _, (slices_IndexFunc_intint_impl_IsRow_f1_run F s0).trans ((slices_IndexFunc_intint_impl_IsRow_f1_cp _ F s0 _).trans (bind_use hc _)), rfl, rfl, rfl⟩
  · cases h

/-! slices.ContainsFunc[[]int,int] -/
noncomputable def slices_ContainsFunc_intint_impl_IsRow_f1_tab (F : Nat) : Tab := [(80, (slices_IndexFunc_intint_impl_IsRow_f1_ent F))]
theorem slices_ContainsFunc_intint_impl_IsRow_f1_tabok (F : Nat) : TabOK Try.prog (slices_ContainsFunc_intint_impl_IsRow_f1_tab F) := (tab_cons (slices_IndexFunc_intint_impl_IsRow_f1_meets F) slices_IndexFunc_intint_impl_IsRow_f1_fok tab_nil)
noncomputable def slices_ContainsFunc_intint_impl_IsRow_f1_LS0 (F : Nat) : LT := []
theorem slices_ContainsFunc_intint_impl_IsRow_f1_lsok0 (F : Nat) : LoopsOK Try.prog (slices_ContainsFunc_intint_impl_IsRow_f1_LS0 F) (bodyOf Try.f74) := loopsOK_nil
theorem slices_ContainsFunc_intint_impl_IsRow_f1_run (F : Nat) (s0 : List Int) : runS tt (slices_ContainsFunc_intint_impl_IsRow_f1_tab F) (slices_ContainsFunc_intint_impl_IsRow_f1_LS0 F) [] [] Try.f74 (bodyOf Try.f74) 70 [(.ri .i64 s0), (.fn 75 [] [])] [] = slices_ContainsFunc_intint_impl_IsRow_f1_c _ F s0 (fun r => some ⟨(.bool r), [], []⟩) := by kernel_rfl
def slices_ContainsFunc_intint_impl_IsRow_f1_ent (F : Nat) : Ent := ⟨[], .quiet, fun args mem => match args, mem with
  | [(.ri .i64 s0), (.fn 75 [] [])], [] => some ((slices_ContainsFunc_intint_impl_IsRow_f1_p F s0).isSome, ⟨(.bool ((slices_ContainsFunc_intint_impl_IsRow_f1_p F s0).getD default)), [], []⟩)
  | _, _ => none⟩
theorem slices_ContainsFunc_intint_impl_IsRow_f1_fok : FunOK Try.prog 74 := funOK Try.func74 (by kernel_rfl) rfl
theorem slices_ContainsFunc_intint_impl_IsRow_f1_meets (F : Nat) : Meets Try.prog 74 (slices_ContainsFunc_intint_impl_IsRow_f1_ent F) := by
  refine meets_of_runS mixed ttok deep (slices_ContainsFunc_intint_impl_IsRow_f1_tabok F) Try.func74 (body_some rfl) (slices_ContainsFunc_intint_impl_IsRow_f1_lsok0 F) fun args mem hfit ret h => ?_
  clear hfit
  simp only [slices_ContainsFunc_intint_impl_IsRow_f1_ent] at h
  split at h
  · rename_i s0
    simp only [Option.some.injEq, Prod.mk.injEq] at h
    obtain ⟨hc, rfl⟩ := h
    exact ⟨[], [], 70, _, (slices_ContainsFunc_intint_impl_IsRow_f1_run F s0).trans ((slices_ContainsFunc_intint_impl_IsRow_f1_cp _ F s0 _).trans (bind_use hc _)), rfl, rfl, rfl⟩
  · cases h

/-! loop.example/g01194/impl.IsRow -/
noncomputable def impl_IsRow_tab (F : Nat) : Tab := [(74, (slices_ContainsFunc_intint_impl_IsRow_f1_ent F))]
theorem impl_IsRow_tabok (F : Nat) : TabOK Try.prog (impl_IsRow_tab F) := (tab_cons (slices_ContainsFunc_intint_impl_IsRow_f1_meets F) slices_ContainsFunc_intint_impl_IsRow_f1_fok tab_nil)
noncomputable def impl_IsRow_LS0 (F : Nat) : LT := []
theorem impl_IsRow_lsok0 (F : Nat) : LoopsOK Try.prog (impl_IsRow_LS0 F) (bodyOf Try.f62) := loopsOK_nil
theorem impl_IsRow_run (F : Nat) (row0 : List Int) : runS tt (impl_IsRow_tab F) (impl_IsRow_LS0 F) [] [] Try.f62 (bodyOf Try.f62) 70 [(.ints 4 row0)] [] = impl_IsRow_c _ F row0 (fun r => some ⟨(.bool r), [], []⟩) := by kernel_rfl
def impl_IsRow_ent (F : Nat) : Ent := ⟨[], .quiet, fun args mem => match args, mem with
  | [(.ints 4 row0)], [] => some ((impl_IsRow_p F row0).isSome, ⟨(.bool ((impl_IsRow_p F row0).getD default)), [], []⟩)
  | _, _ => none⟩
theorem impl_IsRow_fok : FunOK Try.prog 62 := funOK Try.func62 (by kernel_rfl) rfl
theorem impl_IsRow_meets (F : Nat) : Meets Try.prog 62 (impl_IsRow_ent F) := by
  refine meets_of_runS mixed ttok deep (impl_IsRow_tabok F) Try.func62 (body_some rfl) (impl_IsRow_lsok0 F) fun args mem hfit ret h => ?_
  clear hfit
  simp only [impl_IsRow_ent] at h
  split at h
  · rename_i row0
    simp only [Option.some.injEq, Prod.mk.injEq] at h
    obtain ⟨hc, rfl⟩ := h
    exact ⟨[], [], 70, _, (impl_IsRow_run F row0).trans ((impl_IsRow_cp _ F row0 _).trans (bind_use hc _)), rfl, rfl, rfl⟩
  · cases h

/-! loop.example/g01194/impl.IsBoard$1 -/
noncomputable def impl_IsBoard_f1_tab (F : Nat) : Tab := [(62, (impl_IsRow_ent F))]
theorem impl_IsBoard_f1_tabok (F : Nat) : TabOK Try.prog (impl_IsBoard_f1_tab F) := (tab_cons (impl_IsRow_meets F) impl_IsRow_fok tab_nil)
noncomputable def impl_IsBoard_f1_LS0 (F : Nat) : LT := []
theorem impl_IsBoard_f1_lsok0 (F : Nat) : LoopsOK Try.prog (impl_IsBoard_f1_LS0 F) (bodyOf Try.f61) := loopsOK_nil
theorem impl_IsBoard_f1_run (F : Nat) (row0 : List Int) : runS tt (impl_IsBoard_f1_tab F) (impl_IsBoard_f1_LS0 F) [] [] Try.f61 (bodyOf Try.f61) 70 [(.ints 4 row0)] [] = impl_IsBoard_f1_c _ F row0 (fun r => some ⟨(.bool r), [], []⟩) := by kernel_rfl
def impl_IsBoard_f1_ent (F : Nat) : Ent := ⟨[], .quiet, fun args mem => match args, mem with
  | [(.ints 4 row0)], [] => some ((impl_IsBoard_f1_p F row0).isSome, ⟨(.bool ((impl_IsBoard_f1_p F row0).getD default)), [], []⟩)
  | _, _ => none⟩
theorem impl_IsBoard_f1_fok : FunOK Try.prog 61 := funOK Try.func61 (by kernel_rfl) rfl
theorem impl_IsBoard_f1_meets (F : Nat) : Meets Try.prog 61 (impl_IsBoard_f1_ent F) := by
  refine meets_of_runS mixed ttok deep (impl_IsBoard_f1_tabok F) Try.func61 (body_some rfl) (impl_IsBoard_f1_lsok0 F) fun args mem hfit ret h => ?_
  clear hfit
  simp only [impl_IsBoard_f1_ent] at h
  split at h
  · rename_i row0
    simp only [Option.some.injEq, Prod.mk.injEq] at h
    obtain ⟨hc, rfl⟩ := h
    exact ⟨[], [], 70, _, (impl_IsBoard_f1_run F row0).trans ((impl_IsBoard_f1_cp _ F row0 _).trans (bind_use hc _)), rfl, rfl, rfl⟩
  · cases h

/-! slices.IndexFunc[[][4]int,[4]int] -/
noncomputable def slices_IndexFunc_4int4int_impl_IsBoard_f1_tab (F : Nat) : Tab := [(61, (impl_IsBoard_f1_ent F))]
theorem slices_IndexFunc_4int4int_impl_IsBoard_f1_tabok (F : Nat) : TabOK Try.prog (slices_IndexFunc_4int4int_impl_IsBoard_f1_tab F) := (tab_cons (impl_IsBoard_f1_meets F) impl_IsBoard_f1_fok tab_nil)
noncomputable def slices_IndexFunc_4int4int_impl_IsBoard_f1_LS0 (F : Nat) : LT := []
theorem slices_IndexFunc_4int4int_impl_IsBoard_f1_lsok0 (F : Nat) : LoopsOK Try.prog (slices_IndexFunc_4int4int_impl_IsBoard_f1_LS0 F) (bodyOf Try.f73) := loopsOK_nil
theorem slices_IndexFunc_4int4int_impl_IsBoard_f1_keys : keysOK (bodyOf Try.f73) = true := by kernel_rfl
def slices_IndexFunc_4int4int_impl_IsBoard_f1_st2 (s0 : List (List Int)) (t71 : Int) (t82 : Int) : St := ⟨expand 19 0 [0, 1, 7, 8] [(.rr 4 s0), (.fn 61 [] []), (.int .i64 t71), (.int .i64 t82)], [], 0, []⟩
def slices_IndexFunc_4int4int_impl_IsBoard_f1_o2 (s0 : List (List Int)) (t71 : Int) (x : Bool × Int) : GT := (.br x.1 (.out (.ret ⟨expand 19 0 [4] [(.int .i64 x.2)], [], 0, []⟩)) (.out (.exit 0 ⟨expand 19 0 [] [], [], 0, []⟩)))
def slices_IndexFunc_4int4int_impl_IsBoard_f1_ls2 (F : Nat) : LoopS := ⟨19, [0, 1, 7, 8], [], [], [], [4], [], [], fun vals mem np killed => match vals, mem, np, killed with
  | [(.rr 4 s0), (.fn 61 [] []), (.int .i64 t71), (.int .i64 t82)], [], 0, [] => .br (slices_IndexFunc_4int4int_impl_IsBoard_f1_l2 F s0 t71 t82).isSome (slices_IndexFunc_4int4int_impl_IsBoard_f1_o2 s0 t71 ((slices_IndexFunc_4int4int_impl_IsBoard_f1_l2 F s0 t71 t82).getD default)) .fail
  | _, _, _, _ => .fail⟩
theorem slices_IndexFunc_4int4int_impl_IsBoard_f1_step2 (F : Nat) (s0 : List (List Int)) (t71 : Int) (t82 : Int) {R : Type} (k : Out → Option R) : stepS tt (slices_IndexFunc_4int4int_impl_IsBoard_f1_tab F) (slices_IndexFunc_4int4int_impl_IsBoard_f1_LS0 F) 70 (slices_IndexFunc_4int4int_impl_IsBoard_f1_ls2 F) (loopAt 2 (bodyOf Try.f73)) (slices_IndexFunc_4int4int_impl_IsBoard_f1_st2 s0 t71 t82) k = slices_IndexFunc_4int4int_impl_IsBoard_f1_s2 F s0 t71 R t82 (fun s => k (.norm (slices_IndexFunc_4int4int_impl_IsBoard_f1_st2 s0 t71 s))) (fun x => (slices_IndexFunc_4int4int_impl_IsBoard_f1_o2 s0 t71 x).run k) := by kernel_rfl
theorem slices_IndexFunc_4int4int_impl_IsBoard_f1_iter2 (F : Nat) (s0 : List (List Int)) (t71 : Int) {R : Type} (k : Out → Option R) : ∀ (n : Nat) (t82 : Int), iterS tt (slices_IndexFunc_4int4int_impl_IsBoard_f1_tab F) (slices_IndexFunc_4int4int_impl_IsBoard_f1_LS0 F) 70 (slices_IndexFunc_4int4int_impl_IsBoard_f1_ls2 F) (loopAt 2 (bodyOf Try.f73)) n (slices_IndexFunc_4int4int_impl_IsBoard_f1_st2 s0 t71 t82) k = loopC (slices_IndexFunc_4int4int_impl_IsBoard_f1_s2 F s0 t71) n t82 (fun x => (slices_IndexFunc_4int4int_impl_IsBoard_f1_o2 s0 t71 x).run k)
  | 0, t82 => rfl
  | n + 1, t82 => (iterS_succ tt (slices_IndexFunc_4int4int_impl_IsBoard_f1_tab F) (slices_IndexFunc_4int4int_impl_IsBoard_f1_LS0 F) 70 (slices_IndexFunc_4int4int_impl_IsBoard_f1_ls2 F) (loopAt 2 (bodyOf Try.f73)) n (slices_IndexFunc_4int4int_impl_IsBoard_f1_st2 s0 t71 t82) k).trans ((slices_IndexFunc_4int4int_impl_IsBoard_f1_step2 F s0 t71 t82 (nextK (iterS tt (slices_IndexFunc_4int4int_impl_IsBoard_f1_tab F) (slices_IndexFunc_4int4int_impl_IsBoard_f1_LS0 F) 70 (slices_IndexFunc_4int4int_impl_IsBoard_f1_ls2 F) (loopAt 2 (bodyOf Try.f73)) n) k)).trans (congrArg (fun kn => slices_IndexFunc_4int4int_impl_IsBoard_f1_s2 F s0 t71 R t82 kn _) (funext (fun t82 => slices_IndexFunc_4int4int_impl_IsBoard_f1_iter2 F s0 t71 k n t82))))
theorem slices_IndexFunc_4int4int_impl_IsBoard_f1_lok2 (F : Nat) : LoopOK Try.prog (loopAt 2 (bodyOf Try.f73)) (slices_IndexFunc_4int4int_impl_IsBoard_f1_ls2 F) := by
  refine loopOK_of mixed ttok deep (slices_IndexFunc_4int4int_impl_IsBoard_f1_tabok F) (loopsOK_at (slices_IndexFunc_4int4int_impl_IsBoard_f1_lsok0 F) 2) (fuel := 70) fun R vals mem np killed k x h => ?_
  simp only [slices_IndexFunc_4int4int_impl_IsBoard_f1_ls2] at h
  split at h
  · rename_i s0 t71 t82
    simp only [GT.run] at h
    have hc := (cond_noneL h).1
    replace h := (cond_noneL h).2
    refine ⟨F, (slices_IndexFunc_4int4int_impl_IsBoard_f1_iter2 F s0 t71 k F t82).trans ((loopC_use (slices_IndexFunc_4int4int_impl_IsBoard_f1_s2_nat F s0 t71) hc _).trans h)⟩
  · simp only [GT.run] at h
    cases h
noncomputable def slices_IndexFunc_4int4int_impl_IsBoard_f1_LS1 (F : Nat) : LT := (2, slices_IndexFunc_4int4int_impl_IsBoard_f1_ls2 F) :: slices_IndexFunc_4int4int_impl_IsBoard_f1_LS0 F
theorem slices_IndexFunc_4int4int_impl_IsBoard_f1_lsok1 (F : Nat) : LoopsOK Try.prog (slices_IndexFunc_4int4int_impl_IsBoard_f1_LS1 F) (bodyOf Try.f73) := loopsOK_cons slices_IndexFunc_4int4int_impl_IsBoard_f1_keys (slices_IndexFunc_4int4int_impl_IsBoard_f1_lok2 F) (slices_IndexFunc_4int4int_impl_IsBoard_f1_lsok0 F)
theorem slices_IndexFunc_4int4int_impl_IsBoard_f1_run (F : Nat) (s0 : List (List Int)) : runS tt (slices_IndexFunc_4int4int_impl_IsBoard_f1_tab F) (slices_IndexFunc_4int4int_impl_IsBoard_f1_LS1 F) [] [] Try.f73 (bodyOf Try.f73) 70 [(.rr 4 s0), (.fn 61 [] [])] [] = slices_IndexFunc_4int4int_impl_IsBoard_f1_c _ F s0 (fun r => some ⟨(.int .i64 r), [], []⟩) := by kernel_rfl
def slices_IndexFunc_4int4int_impl_IsBoard_f1_ent (F : Nat) : Ent := ⟨[], .quiet, fun args mem => match args, mem with
  | [(.rr 4 s0), (.fn 61 [] [])], [] => some ((slices_IndexFunc_4int4int_impl_IsBoard_f1_p F s0).isSome, ⟨(.int .i64 ((slices_IndexFunc_4int4int_impl_IsBoard_f1_p F s0).getD default)), [], []⟩)
  | _, _ => none⟩
theorem slices_IndexFunc_4int4int_impl_IsBoard_f1_fok : FunOK Try.prog 73 := funOK Try.func73 (by kernel_rfl) rfl
theorem slices_IndexFunc_4int4int_impl_IsBoard_f1_meets (F : Nat) : Meets Try.prog 73 (slices_IndexFunc_4int4int_impl_IsBoard_f1_ent F) := by
  refine meets_of_runS mixed ttok deep (slices_IndexFunc_4int4int_impl_IsBoard_f1_tabok F) Try.func73 (body_some rfl) (slices_IndexFunc_4int4int_impl_IsBoard_f1_lsok1 F) fun args mem hfit ret h => ?_
  clear hfit
  simp only [slices_IndexFunc_4int4int_impl_IsBoard_f1_ent] at h
  split at h
  · rename_i s0
    simp only [Option.some.injEq, Prod.mk.injEq] at h
    obtain ⟨hc, rfl⟩ := h
    exact ⟨[], [], 70, _, (slices_IndexFunc_4int4int_impl_IsBoard_f1_run F s0).trans ((slices_IndexFunc_4int4int_impl_IsBoard_f1_cp _ F s0 _).trans (bind_use hc _)), rfl, rfl, rfl⟩
  · cases h

/-! slices.ContainsFunc[[][4]int,[4]int] -/
noncomputable def slices_ContainsFunc_4int4int_impl_IsBoard_f1_tab (F : Nat) : Tab := [(73, (slices_IndexFunc_4int4int_impl_IsBoard_f1_ent F))]
theorem slices_ContainsFunc_4int4int_impl_IsBoard_f1_tabok (F : Nat) : TabOK Try.prog (slices_ContainsFunc_4int4int_impl_IsBoard_f1_tab F) := (tab_cons (slices_IndexFunc_4int4int_impl_IsBoard_f1_meets F) slices_IndexFunc_4int4int_impl_IsBoard_f1_fok tab_nil)
noncomputable def slices_ContainsFunc_4int4int_impl_IsBoard_f1_LS0 (F : Nat) : LT := []
theorem slices_ContainsFunc_4int4int_impl_IsBoard_f1_lsok0 (F : Nat) : LoopsOK Try.prog (slices_ContainsFunc_4int4int_impl_IsBoard_f1_LS0 F) (bodyOf Try.f60) := loopsOK_nil
theorem slices_ContainsFunc_4int4int_impl_IsBoard_f1_run (F : Nat) (s0 : List (List Int)) : runS tt (slices_ContainsFunc_4int4int_impl_IsBoard_f1_tab F) (slices_ContainsFunc_4int4int_impl_IsBoard_f1_LS0 F) [] [] Try.f60 (bodyOf Try.f60) 70 [(.rr 4 s0), (.fn 61 [] [])] [] = slices_ContainsFunc_4int4int_impl_IsBoard_f1_c _ F s0 (fun r => some ⟨(.bool r), [], []⟩) := by kernel_rfl
def slices_ContainsFunc_4int4int_impl_IsBoard_f1_ent (F : Nat) : Ent := ⟨[], .quiet, fun args mem => match args, mem with
  | [(.rr 4 s0), (.fn 61 [] [])], [] => some ((slices_ContainsFunc_4int4int_impl_IsBoard_f1_p F s0).isSome, ⟨(.bool ((slices_ContainsFunc_4int4int_impl_IsBoard_f1_p F s0).getD default)), [], []⟩)
  | _, _ => none⟩
theorem slices_ContainsFunc_4int4int_impl_IsBoard_f1_fok : FunOK Try.prog 60 := funOK Try.func60 (by kernel_rfl) rfl
theorem slices_ContainsFunc_4int4int_impl_IsBoard_f1_meets (F : Nat) : Meets Try.prog 60 (slices_ContainsFunc_4int4int_impl_IsBoard_f1_ent F) := by
  refine meets_of_runS mixed ttok deep (slices_ContainsFunc_4int4int_impl_IsBoard_f1_tabok F) Try.func60 (body_some rfl) (slices_ContainsFunc_4int4int_impl_IsBoard_f1_lsok0 F) fun args mem hfit ret h => ?_
  clear hfit
  simp only [slices_ContainsFunc_4int4int_impl_IsBoard_f1_ent] at h
  split at h
  · rename_i s0
    simp only [Option.some.injEq, Prod.mk.injEq] at h
    obtain ⟨hc, rfl⟩ := h
    exact ⟨[], [], 70, _, (slices_ContainsFunc_4int4int_impl_IsBoard_f1_run F s0).trans ((slices_ContainsFunc_4int4int_impl_IsBoard_f1_cp _ F s0 _).trans (bind_use hc _)), rfl, rfl, rfl⟩
  · cases h

/-! loop.example/g01194/impl.IsBoard -/
noncomputable def impl_IsBoard_tab (F : Nat) : Tab := [(60, (slices_ContainsFunc_4int4int_impl_IsBoard_f1_ent F))]
theorem impl_IsBoard_tabok (F : Nat) : TabOK Try.prog (impl_IsBoard_tab F) := (tab_cons (slices_ContainsFunc_4int4int_impl_IsBoard_f1_meets F) slices_ContainsFunc_4int4int_impl_IsBoard_f1_fok tab_nil)
noncomputable def impl_IsBoard_LS0 (F : Nat) : LT := []
theorem impl_IsBoard_lsok0 (F : Nat) : LoopsOK Try.prog (impl_IsBoard_LS0 F) (bodyOf Try.f42) := loopsOK_nil
theorem impl_IsBoard_run (F : Nat) (b0 : List Int) : runS tt (impl_IsBoard_tab F) (impl_IsBoard_LS0 F) [] [] Try.f42 (bodyOf Try.f42) 70 [(.ints 16 b0)] [] = impl_IsBoard_c _ F b0 (fun r => some ⟨(.bool r), [], []⟩) := by kernel_rfl
def impl_IsBoard_ent (F : Nat) : Ent := ⟨[], .quiet, fun args mem => match args, mem with
  | [(.ints 16 b0)], [] => some ((impl_IsBoard_p F b0).isSome, ⟨(.bool ((impl_IsBoard_p F b0).getD default)), [], []⟩)
  | _, _ => none⟩
theorem impl_IsBoard_fok : FunOK Try.prog 42 := funOK Try.func42 (by kernel_rfl) rfl
theorem impl_IsBoard_meets (F : Nat) : Meets Try.prog 42 (impl_IsBoard_ent F) := by
  refine meets_of_runS mixed ttok deep (impl_IsBoard_tabok F) Try.func42 (body_some rfl) (impl_IsBoard_lsok0 F) fun args mem hfit ret h => ?_
  clear hfit
  simp only [impl_IsBoard_ent] at h
  split at h
  · rename_i b0
    simp only [Option.some.injEq, Prod.mk.injEq] at h
    obtain ⟨hc, rfl⟩ := h
    exact ⟨[], [], 70, _, (impl_IsBoard_run F b0).trans ((impl_IsBoard_cp _ F b0 _).trans (bind_use hc _)), rfl, rfl, rfl⟩
  · cases h
end Go.Proofs.Ytabfliifleonaaa
