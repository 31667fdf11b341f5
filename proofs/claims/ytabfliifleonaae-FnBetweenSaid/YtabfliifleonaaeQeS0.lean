/-
Pure functions and what the code of them does, by program; without conditions.
-/
import Derived.Test.YtabfliifleonaaeQeP0
import Derived.Test.YtabfliifleonaaeQeA
namespace Go.Proofs.Ytabfliifleonaae
open Go Go.Lv Go.Lv.P Go.Proofs
set_option linter.unusedVariables false
set_option linter.unusedSimpArgs false
set_option maxRecDepth 100000
/-! loop.example/g01194/laws.vBig -/
noncomputable def laws_vBig_tab (F : Nat) : Tab := []
theorem laws_vBig_tabok (F : Nat) : TabOK Try.prog (laws_vBig_tab F) := tab_nil
noncomputable def laws_vBig_LS0 (F : Nat) : LT := []
theorem laws_vBig_lsok0 (F : Nat) : LoopsOK Try.prog (laws_vBig_LS0 F) (bodyOf Try.f4) := loopsOK_nil
theorem laws_vBig_run (F : Nat) (code0 : List Int) : runS tt (laws_vBig_tab F) (laws_vBig_LS0 F) [] [] Try.f4 (bodyOf Try.f4) 70 [(.ri .u8 code0)] [] = laws_vBig_c _ code0 (fun r => some ⟨(.bool r), [], []⟩) := by kernel_rfl
def laws_vBig_ent (F : Nat) : Ent := ⟨[], .quiet, fun args mem => match args, mem with
  | [(.ri .u8 code0)], [] => some (true, ⟨(.bool (laws_vBig_v code0)), [], []⟩)
  | _, _ => none⟩
theorem laws_vBig_fok : FunOK Try.prog 4 := funOK Try.func4 (by kernel_rfl) rfl
theorem laws_vBig_meets (F : Nat) : Meets Try.prog 4 (laws_vBig_ent F) := by
  refine meets_of_runS mixed ttok deep (laws_vBig_tabok F) Try.func4 (body_some rfl) (laws_vBig_lsok0 F) fun args mem hfit ret h => ?_
  clear hfit
  simp only [laws_vBig_ent] at h
  split at h
  · rename_i code0
    simp only [Option.some.injEq, Prod.mk.injEq] at h
    obtain ⟨hc, rfl⟩ := h
    exact ⟨[], [], 70, _, (laws_vBig_run F code0).trans (laws_vBig_cv _ code0 _), rfl, rfl, rfl⟩
  · cases h

/-! (*loop.example/g01194/spec.l1Cur).next -/
noncomputable def spec_l1Cur_next_tab (F : Nat) : Tab := []
theorem spec_l1Cur_next_tabok (F : Nat) : TabOK Try.prog (spec_l1Cur_next_tab F) := tab_nil
noncomputable def spec_l1Cur_next_LS0 (F : Nat) : LT := []
theorem spec_l1Cur_next_lsok0 (F : Nat) : LoopsOK Try.prog (spec_l1Cur_next_LS0 F) (bodyOf Try.f54) := loopsOK_nil
theorem spec_l1Cur_next_run (F : Nat) (c3 : List Int) (c4 : Int) (c5 : Int) : runS tt (spec_l1Cur_next_tab F) (spec_l1Cur_next_LS0 F) [] [] Try.f54 (bodyOf Try.f54) 70 [(.ptr 0 0 0 3)] [(.var 3 (.rv [(.ri .u8 c3), (.int .i64 c4), (.int .u64 c5)]))] = spec_l1Cur_next_c _ c3 c4 c5 (fun r => some ⟨(.int .i64 r.1), [(.var 3 (.rv [(.ri .u8 c3), (.int .i64 r.2.1), (.int .u64 r.2.2)]))], []⟩) := by kernel_rfl
def spec_l1Cur_next_ent (F : Nat) : Ent := ⟨[], .loud, fun args mem => match args, mem with
  | [(.ptr 0 0 0 3)], [(.var 3 (.rv [(.ri .u8 c3), (.int .i64 c4), (.int .u64 c5)]))] => some ((spec_l1Cur_next_p c3 c4 c5).isSome, ⟨(.int .i64 ((spec_l1Cur_next_p c3 c4 c5).getD default).1), [(.var 3 (.rv [(.ri .u8 c3), (.int .i64 ((spec_l1Cur_next_p c3 c4 c5).getD default).2.1), (.int .u64 ((spec_l1Cur_next_p c3 c4 c5).getD default).2.2)]))], []⟩)
  | _, _ => none⟩
theorem spec_l1Cur_next_fok : FunOK Try.prog 54 := funOK Try.func54 (by kernel_rfl) rfl
theorem spec_l1Cur_next_meets (F : Nat) : Meets Try.prog 54 (spec_l1Cur_next_ent F) := by
  refine meets_of_runS mixed ttok deep (spec_l1Cur_next_tabok F) Try.func54 (body_some rfl) (spec_l1Cur_next_lsok0 F) fun args mem hfit ret h => ?_
  clear hfit
  simp only [spec_l1Cur_next_ent] at h
  split at h
  · rename_i c3 c4 c5
    simp only [Option.some.injEq, Prod.mk.injEq] at h
    obtain ⟨hc, rfl⟩ := h
    exact ⟨[], [], 70, _, (spec_l1Cur_next_run F c3 c4 c5).trans ((spec_l1Cur_next_cp _ c3 c4 c5 _).trans (bind_use hc _)), rfl, rfl, rfl⟩
  · cases h

/-! (*loop.example/g01194/spec.l1Cur).pick -/
noncomputable def spec_l1Cur_pick_tab (F : Nat) : Tab := [(54, (spec_l1Cur_next_ent F))]
theorem spec_l1Cur_pick_tabok (F : Nat) : TabOK Try.prog (spec_l1Cur_pick_tab F) := (tab_cons (spec_l1Cur_next_meets F) spec_l1Cur_next_fok tab_nil)
noncomputable def spec_l1Cur_pick_LS0 (F : Nat) : LT := []
theorem spec_l1Cur_pick_lsok0 (F : Nat) : LoopsOK Try.prog (spec_l1Cur_pick_LS0 F) (bodyOf Try.f27) := loopsOK_nil
theorem spec_l1Cur_pick_run (F : Nat) (n3 : Int) (c4 : List Int) (c5 : Int) (c6 : Int) : runS tt (spec_l1Cur_pick_tab F) (spec_l1Cur_pick_LS0 F) [] [] Try.f27 (bodyOf Try.f27) 70 [(.ptr 0 0 0 3), (.int .i64 n3)] [(.var 3 (.rv [(.ri .u8 c4), (.int .i64 c5), (.int .u64 c6)]))] = spec_l1Cur_pick_c _ n3 c4 c5 c6 (fun r => some ⟨(.int .i64 r.1), [(.var 3 (.rv [(.ri .u8 c4), (.int .i64 r.2.1), (.int .u64 r.2.2)]))], []⟩) := by kernel_rfl
def spec_l1Cur_pick_ent (F : Nat) : Ent := ⟨[], .loud, fun args mem => match args, mem with
  | [(.ptr 0 0 0 3), (.int .i64 n3)], [(.var 3 (.rv [(.ri .u8 c4), (.int .i64 c5), (.int .u64 c6)]))] => some ((spec_l1Cur_pick_p n3 c4 c5 c6).isSome, ⟨(.int .i64 ((spec_l1Cur_pick_p n3 c4 c5 c6).getD default).1), [(.var 3 (.rv [(.ri .u8 c4), (.int .i64 ((spec_l1Cur_pick_p n3 c4 c5 c6).getD default).2.1), (.int .u64 ((spec_l1Cur_pick_p n3 c4 c5 c6).getD default).2.2)]))], []⟩)
  | _, _ => none⟩
theorem spec_l1Cur_pick_fok : FunOK Try.prog 27 := funOK Try.func27 (by kernel_rfl) rfl
theorem spec_l1Cur_pick_meets (F : Nat) : Meets Try.prog 27 (spec_l1Cur_pick_ent F) := by
  refine meets_of_runS mixed ttok deep (spec_l1Cur_pick_tabok F) Try.func27 (body_some rfl) (spec_l1Cur_pick_lsok0 F) fun args mem hfit ret h => ?_
  clear hfit
  simp only [spec_l1Cur_pick_ent] at h
  split at h
  · rename_i n3 c4 c5 c6
    simp only [Option.some.injEq, Prod.mk.injEq] at h
    obtain ⟨hc, rfl⟩ := h
    exact ⟨[], [], 70, _, (spec_l1Cur_pick_run F n3 c4 c5 c6).trans ((spec_l1Cur_pick_cp _ n3 c4 c5 c6 _).trans (bind_use hc _)), rfl, rfl, rfl⟩
  · cases h

/-! (*loop.example/g01194/spec.l1Cur).one -/
noncomputable def spec_l1Cur_one_tab (F : Nat) : Tab := [(27, (spec_l1Cur_pick_ent F))]
theorem spec_l1Cur_one_tabok (F : Nat) : TabOK Try.prog (spec_l1Cur_one_tab F) := (tab_cons (spec_l1Cur_pick_meets F) spec_l1Cur_pick_fok tab_nil)
noncomputable def spec_l1Cur_one_LS0 (F : Nat) : LT := []
theorem spec_l1Cur_one_lsok0 (F : Nat) : LoopsOK Try.prog (spec_l1Cur_one_LS0 F) (bodyOf Try.f19) := loopsOK_nil
theorem spec_l1Cur_one_run (F : Nat) (n3 : Int) (c4 : List Int) (c5 : Int) (c6 : Int) : runS tt (spec_l1Cur_one_tab F) (spec_l1Cur_one_LS0 F) [] [] Try.f19 (bodyOf Try.f19) 70 [(.ptr 0 0 0 3), (.int .i64 n3)] [(.var 3 (.rv [(.ri .u8 c4), (.int .i64 c5), (.int .u64 c6)]))] = spec_l1Cur_one_c _ n3 c4 c5 c6 (fun r => some ⟨(.bool r.1), [(.var 3 (.rv [(.ri .u8 c4), (.int .i64 r.2.1), (.int .u64 r.2.2)]))], []⟩) := by kernel_rfl
def spec_l1Cur_one_ent (F : Nat) : Ent := ⟨[], .loud, fun args mem => match args, mem with
  | [(.ptr 0 0 0 3), (.int .i64 n3)], [(.var 3 (.rv [(.ri .u8 c4), (.int .i64 c5), (.int .u64 c6)]))] => some ((spec_l1Cur_one_p n3 c4 c5 c6).isSome, ⟨(.bool ((spec_l1Cur_one_p n3 c4 c5 c6).getD default).1), [(.var 3 (.rv [(.ri .u8 c4), (.int .i64 ((spec_l1Cur_one_p n3 c4 c5 c6).getD default).2.1), (.int .u64 ((spec_l1Cur_one_p n3 c4 c5 c6).getD default).2.2)]))], []⟩)
  | _, _ => none⟩
theorem spec_l1Cur_one_fok : FunOK Try.prog 19 := funOK Try.func19 (by kernel_rfl) rfl
theorem spec_l1Cur_one_meets (F : Nat) : Meets Try.prog 19 (spec_l1Cur_one_ent F) := by
  refine meets_of_runS mixed ttok deep (spec_l1Cur_one_tabok F) Try.func19 (body_some rfl) (spec_l1Cur_one_lsok0 F) fun args mem hfit ret h => ?_
  clear hfit
  simp only [spec_l1Cur_one_ent] at h
  split at h
  · rename_i n3 c4 c5 c6
    simp only [Option.some.injEq, Prod.mk.injEq] at h
    obtain ⟨hc, rfl⟩ := h
    exact ⟨[], [], 70, _, (spec_l1Cur_one_run F n3 c4 c5 c6).trans ((spec_l1Cur_one_cp _ n3 c4 c5 c6 _).trans (bind_use hc _)), rfl, rfl, rfl⟩
  · cases h

/-! (*loop.example/g01194/spec.l1Cur).among -/
noncomputable def spec_l1Cur_among_tab (F : Nat) : Tab := [(27, (spec_l1Cur_pick_ent F))]
theorem spec_l1Cur_among_tabok (F : Nat) : TabOK Try.prog (spec_l1Cur_among_tab F) := (tab_cons (spec_l1Cur_pick_meets F) spec_l1Cur_pick_fok tab_nil)
noncomputable def spec_l1Cur_among_LS0 (F : Nat) : LT := []
theorem spec_l1Cur_among_lsok0 (F : Nat) : LoopsOK Try.prog (spec_l1Cur_among_LS0 F) (bodyOf Try.f26) := loopsOK_nil
theorem spec_l1Cur_among_run (F : Nat) (list3 : List Int) (c4 : List Int) (c5 : Int) (c6 : Int) : runS tt (spec_l1Cur_among_tab F) (spec_l1Cur_among_LS0 F) [] [] Try.f26 (bodyOf Try.f26) 70 [(.ptr 0 0 0 3), (.ri .i64 list3)] [(.var 3 (.rv [(.ri .u8 c4), (.int .i64 c5), (.int .u64 c6)]))] = spec_l1Cur_among_c _ list3 c4 c5 c6 (fun r => some ⟨(.int .i64 r.1), [(.var 3 (.rv [(.ri .u8 c4), (.int .i64 r.2.1), (.int .u64 r.2.2)]))], []⟩) := by kernel_rfl
def spec_l1Cur_among_ent (F : Nat) : Ent := ⟨[], .loud, fun args mem => match args, mem with
  | [(.ptr 0 0 0 3), (.ri .i64 list3)], [(.var 3 (.rv [(.ri .u8 c4), (.int .i64 c5), (.int .u64 c6)]))] => some ((spec_l1Cur_among_p list3 c4 c5 c6).isSome, ⟨(.int .i64 ((spec_l1Cur_among_p list3 c4 c5 c6).getD default).1), [(.var 3 (.rv [(.ri .u8 c4), (.int .i64 ((spec_l1Cur_among_p list3 c4 c5 c6).getD default).2.1), (.int .u64 ((spec_l1Cur_among_p list3 c4 c5 c6).getD default).2.2)]))], []⟩)
  | _, _ => none⟩
theorem spec_l1Cur_among_fok : FunOK Try.prog 26 := funOK Try.func26 (by kernel_rfl) rfl
theorem spec_l1Cur_among_meets (F : Nat) : Meets Try.prog 26 (spec_l1Cur_among_ent F) := by
  refine meets_of_runS mixed ttok deep (spec_l1Cur_among_tabok F) Try.func26 (body_some rfl) (spec_l1Cur_among_lsok0 F) fun args mem hfit ret h => ?_
  clear hfit
  simp only [spec_l1Cur_among_ent] at h
  split at h
  · rename_i list3 c4 c5 c6
    simp only [Option.some.injEq, Prod.mk.injEq] at h
    obtain ⟨hc, rfl⟩ := h
    exact ⟨[], [], 70, _, (spec_l1Cur_among_run F list3 c4 c5 c6).trans ((spec_l1Cur_among_cp _ list3 c4 c5 c6 _).trans (bind_use hc _)), rfl, rfl, rfl⟩
  · cases h

/-! (*loop.example/g01194/spec.l1Cur).tile -/
noncomputable def spec_l1Cur_tile_tab (F : Nat) : Tab := [(26, (spec_l1Cur_among_ent F))]
theorem spec_l1Cur_tile_tabok (F : Nat) : TabOK Try.prog (spec_l1Cur_tile_tab F) := (tab_cons (spec_l1Cur_among_meets F) spec_l1Cur_among_fok tab_nil)
noncomputable def spec_l1Cur_tile_LS0 (F : Nat) : LT := []
theorem spec_l1Cur_tile_lsok0 (F : Nat) : LoopsOK Try.prog (spec_l1Cur_tile_LS0 F) (bodyOf Try.f42) := loopsOK_nil
theorem spec_l1Cur_tile_run (F : Nat) (c3 : List Int) (c4 : Int) (c5 : Int) : runS tt (spec_l1Cur_tile_tab F) (spec_l1Cur_tile_LS0 F) [] [] Try.f42 (bodyOf Try.f42) 70 [(.ptr 0 0 0 3)] [(.var 3 (.rv [(.ri .u8 c3), (.int .i64 c4), (.int .u64 c5)]))] = spec_l1Cur_tile_c _ c3 c4 c5 (fun r => some ⟨(.int .i64 r.1), [(.var 3 (.rv [(.ri .u8 c3), (.int .i64 r.2.1), (.int .u64 r.2.2)]))], []⟩) := by kernel_rfl
def spec_l1Cur_tile_ent (F : Nat) : Ent := ⟨[], .loud, fun args mem => match args, mem with
  | [(.ptr 0 0 0 3)], [(.var 3 (.rv [(.ri .u8 c3), (.int .i64 c4), (.int .u64 c5)]))] => some ((spec_l1Cur_tile_p c3 c4 c5).isSome, ⟨(.int .i64 ((spec_l1Cur_tile_p c3 c4 c5).getD default).1), [(.var 3 (.rv [(.ri .u8 c3), (.int .i64 ((spec_l1Cur_tile_p c3 c4 c5).getD default).2.1), (.int .u64 ((spec_l1Cur_tile_p c3 c4 c5).getD default).2.2)]))], []⟩)
  | _, _ => none⟩
theorem spec_l1Cur_tile_fok : FunOK Try.prog 42 := funOK Try.func42 (by kernel_rfl) rfl
theorem spec_l1Cur_tile_meets (F : Nat) : Meets Try.prog 42 (spec_l1Cur_tile_ent F) := by
  refine meets_of_runS mixed ttok deep (spec_l1Cur_tile_tabok F) Try.func42 (body_some rfl) (spec_l1Cur_tile_lsok0 F) fun args mem hfit ret h => ?_
  clear hfit
  simp only [spec_l1Cur_tile_ent] at h
  split at h
  · rename_i c3 c4 c5
    simp only [Option.some.injEq, Prod.mk.injEq] at h
    obtain ⟨hc, rfl⟩ := h
    exact ⟨[], [], 70, _, (spec_l1Cur_tile_run F c3 c4 c5).trans ((spec_l1Cur_tile_cp _ c3 c4 c5 _).trans (bind_use hc _)), rfl, rfl, rfl⟩
  · cases h

/-! (*loop.example/g01194/spec.l1Cur).board -/
noncomputable def spec_l1Cur_board_tab (F : Nat) : Tab := [(19, (spec_l1Cur_one_ent F)), (42, (spec_l1Cur_tile_ent F)), (27, (spec_l1Cur_pick_ent F)), (26, (spec_l1Cur_among_ent F))]
theorem spec_l1Cur_board_tabok (F : Nat) : TabOK Try.prog (spec_l1Cur_board_tab F) := (tab_cons (spec_l1Cur_one_meets F) spec_l1Cur_one_fok (tab_cons (spec_l1Cur_tile_meets F) spec_l1Cur_tile_fok (tab_cons (spec_l1Cur_pick_meets F) spec_l1Cur_pick_fok (tab_cons (spec_l1Cur_among_meets F) spec_l1Cur_among_fok tab_nil))))
noncomputable def spec_l1Cur_board_LS0 (F : Nat) : LT := []
theorem spec_l1Cur_board_lsok0 (F : Nat) : LoopsOK Try.prog (spec_l1Cur_board_LS0 F) (bodyOf Try.f18) := loopsOK_nil
theorem spec_l1Cur_board_keys : keysOK (bodyOf Try.f18) = true := by kernel_rfl
def spec_l1Cur_board_st6 (few9 : Bool) (full10 : Bool) (r11 : Int) (c13 : List Int) (k12 : Int) (c14 : Int) (c15 : Int) (b17 : List Int) : St := ⟨expand 110 0 [0, 2, 3, 4, 5, 6, 7] [(.ptr 0 0 0 3), (.ptr 1 0 0 16), (.ptr 2 0 0 16), (.bool few9), (.bool full10), (.int .i64 r11), (.int .i64 k12)], [(.var 3 (.rv [(.ri .u8 c13), (.int .i64 c14), (.int .u64 c15)])), (.var 16 (.ri .i64 [(0 : Int), (0 : Int), (0 : Int), (0 : Int), (0 : Int), (0 : Int), (0 : Int), (0 : Int), (0 : Int), (0 : Int), (0 : Int), (0 : Int), (0 : Int), (0 : Int), (0 : Int), (0 : Int)])), (.var 16 (.ri .i64 b17))], 1, []⟩
def spec_l1Cur_board_o6 (few9 : Bool) (full10 : Bool) (r11 : Int) (c13 : List Int) (x : Int × Int × List Int) : GT := (.out (.exit 2 ⟨expand 110 0 [0, 2, 3, 4, 5, 6] [(.ptr 0 0 0 3), (.ptr 1 0 0 16), (.ptr 2 0 0 16), (.bool few9), (.bool full10), (.int .i64 r11)], [(.var 3 (.rv [(.ri .u8 c13), (.int .i64 x.1), (.int .u64 x.2.1)])), (.var 16 (.ri .i64 [(0 : Int), (0 : Int), (0 : Int), (0 : Int), (0 : Int), (0 : Int), (0 : Int), (0 : Int), (0 : Int), (0 : Int), (0 : Int), (0 : Int), (0 : Int), (0 : Int), (0 : Int), (0 : Int)])), (.var 16 (.ri .i64 x.2.2))], 1, []⟩))
def spec_l1Cur_board_ls6 (F : Nat) : LoopS := ⟨110, [0, 2, 3, 4, 5, 6, 7], [], [0, 2, 3, 4, 5, 6], [], [2], [], [], fun vals mem np killed => match vals, mem, np, killed with
  | [(.ptr 0 0 0 3), (.ptr 1 0 0 16), (.ptr 2 0 0 16), (.bool few9), (.bool full10), (.int .i64 r11), (.int .i64 k12)], [(.var 3 (.rv [(.ri .u8 c13), (.int .i64 c14), (.int .u64 c15)])), (.var 16 (.ri .i64 q_t216)), (.var 16 (.ri .i64 b17))], 1, [] => .br ((q_t216 == ([(0 : Int), (0 : Int), (0 : Int), (0 : Int), (0 : Int), (0 : Int), (0 : Int), (0 : Int), (0 : Int), (0 : Int), (0 : Int), (0 : Int), (0 : Int), (0 : Int), (0 : Int), (0 : Int)] : List Int)) && (spec_l1Cur_board_l6 F few9 full10 r11 c13 k12 c14 c15 b17).isSome) (spec_l1Cur_board_o6 few9 full10 r11 c13 ((spec_l1Cur_board_l6 F few9 full10 r11 c13 k12 c14 c15 b17).getD default)) .fail
  | _, _, _, _ => .fail⟩
theorem spec_l1Cur_board_step6 (F : Nat) (few9 : Bool) (full10 : Bool) (r11 : Int) (c13 : List Int) (k12 : Int) (c14 : Int) (c15 : Int) (b17 : List Int) {R : Type} (k : Out → Option R) : stepS tt (spec_l1Cur_board_tab F) (spec_l1Cur_board_LS0 F) 70 (spec_l1Cur_board_ls6 F) (loopAt 6 (bodyOf Try.f18)) (spec_l1Cur_board_st6 few9 full10 r11 c13 k12 c14 c15 b17) k = spec_l1Cur_board_s6 F few9 full10 r11 c13 R (k12, c14, c15, b17) (fun s => k (.norm (spec_l1Cur_board_st6 few9 full10 r11 c13 s.1 s.2.1 s.2.2.1 s.2.2.2))) (fun x => (spec_l1Cur_board_o6 few9 full10 r11 c13 x).run k) := by kernel_rfl
theorem spec_l1Cur_board_iter6 (F : Nat) (few9 : Bool) (full10 : Bool) (r11 : Int) (c13 : List Int) {R : Type} (k : Out → Option R) : ∀ (n : Nat) (k12 : Int) (c14 : Int) (c15 : Int) (b17 : List Int), iterS tt (spec_l1Cur_board_tab F) (spec_l1Cur_board_LS0 F) 70 (spec_l1Cur_board_ls6 F) (loopAt 6 (bodyOf Try.f18)) n (spec_l1Cur_board_st6 few9 full10 r11 c13 k12 c14 c15 b17) k = loopC (spec_l1Cur_board_s6 F few9 full10 r11 c13) n (k12, c14, c15, b17) (fun x => (spec_l1Cur_board_o6 few9 full10 r11 c13 x).run k)
  | 0, k12, c14, c15, b17 => rfl
  | n + 1, k12, c14, c15, b17 => (iterS_succ tt (spec_l1Cur_board_tab F) (spec_l1Cur_board_LS0 F) 70 (spec_l1Cur_board_ls6 F) (loopAt 6 (bodyOf Try.f18)) n (spec_l1Cur_board_st6 few9 full10 r11 c13 k12 c14 c15 b17) k).trans ((spec_l1Cur_board_step6 F few9 full10 r11 c13 k12 c14 c15 b17 (nextK (iterS tt (spec_l1Cur_board_tab F) (spec_l1Cur_board_LS0 F) 70 (spec_l1Cur_board_ls6 F) (loopAt 6 (bodyOf Try.f18)) n) k)).trans (congrArg (fun kn => spec_l1Cur_board_s6 F few9 full10 r11 c13 R (k12, c14, c15, b17) kn _) (funext (fun ⟨k12, c14, c15, b17⟩ => spec_l1Cur_board_iter6 F few9 full10 r11 c13 k n k12 c14 c15 b17))))
theorem spec_l1Cur_board_lok6 (F : Nat) : LoopOK Try.prog (loopAt 6 (bodyOf Try.f18)) (spec_l1Cur_board_ls6 F) := by
  refine loopOK_of mixed ttok deep (spec_l1Cur_board_tabok F) (loopsOK_at (spec_l1Cur_board_lsok0 F) 6) (fuel := 70) fun R vals mem np killed k x h => ?_
  simp only [spec_l1Cur_board_ls6] at h
  split at h
  · rename_i few9 full10 r11 k12 c13 c14 c15 q_t216 b17
    simp only [GT.run] at h
    have hc := (cond_noneL h).1
    replace h := (cond_noneL h).2
    have hg := (and_split hc).1
    replace hc := (and_split hc).2
    obtain rfl := beq_li hg
    refine ⟨F, (spec_l1Cur_board_iter6 F few9 full10 r11 c13 k F k12 c14 c15 b17).trans ((loopC_use (spec_l1Cur_board_s6_nat F few9 full10 r11 c13) hc _).trans h)⟩
  · simp only [GT.run] at h
    cases h
noncomputable def spec_l1Cur_board_LS1 (F : Nat) : LT := (6, spec_l1Cur_board_ls6 F) :: spec_l1Cur_board_LS0 F
theorem spec_l1Cur_board_lsok1 (F : Nat) : LoopsOK Try.prog (spec_l1Cur_board_LS1 F) (bodyOf Try.f18) := loopsOK_cons spec_l1Cur_board_keys (spec_l1Cur_board_lok6 F) (spec_l1Cur_board_lsok0 F)
def spec_l1Cur_board_st3 (few9 : Bool) (full10 : Bool) (c12 : List Int) (r11 : Int) (c13 : Int) (c14 : Int) (b16 : List Int) : St := ⟨expand 110 0 [0, 2, 3, 4, 5, 6] [(.ptr 0 0 0 3), (.ptr 1 0 0 16), (.ptr 2 0 0 16), (.bool few9), (.bool full10), (.int .i64 r11)], [(.var 3 (.rv [(.ri .u8 c12), (.int .i64 c13), (.int .u64 c14)])), (.var 16 (.ri .i64 [(0 : Int), (0 : Int), (0 : Int), (0 : Int), (0 : Int), (0 : Int), (0 : Int), (0 : Int), (0 : Int), (0 : Int), (0 : Int), (0 : Int), (0 : Int), (0 : Int), (0 : Int), (0 : Int)])), (.var 16 (.ri .i64 b16))], 1, []⟩
def spec_l1Cur_board_o3 (few9 : Bool) (full10 : Bool) (c12 : List Int) (x : Int × Int × List Int) : GT := (.out (.exit 0 ⟨expand 110 0 [0, 2, 3] [(.ptr 0 0 0 3), (.ptr 1 0 0 16), (.ptr 2 0 0 16)], [(.var 3 (.rv [(.ri .u8 c12), (.int .i64 x.1), (.int .u64 x.2.1)])), (.var 16 (.ri .i64 [(0 : Int), (0 : Int), (0 : Int), (0 : Int), (0 : Int), (0 : Int), (0 : Int), (0 : Int), (0 : Int), (0 : Int), (0 : Int), (0 : Int), (0 : Int), (0 : Int), (0 : Int), (0 : Int)])), (.var 16 (.ri .i64 x.2.2))], 1, []⟩))
def spec_l1Cur_board_ls3 (F : Nat) : LoopS := ⟨110, [0, 2, 3, 4, 5, 6], [], [0, 2, 3], [], [2], [], [], fun vals mem np killed => match vals, mem, np, killed with
  | [(.ptr 0 0 0 3), (.ptr 1 0 0 16), (.ptr 2 0 0 16), (.bool few9), (.bool full10), (.int .i64 r11)], [(.var 3 (.rv [(.ri .u8 c12), (.int .i64 c13), (.int .u64 c14)])), (.var 16 (.ri .i64 q_t215)), (.var 16 (.ri .i64 b16))], 1, [] => .br ((q_t215 == ([(0 : Int), (0 : Int), (0 : Int), (0 : Int), (0 : Int), (0 : Int), (0 : Int), (0 : Int), (0 : Int), (0 : Int), (0 : Int), (0 : Int), (0 : Int), (0 : Int), (0 : Int), (0 : Int)] : List Int)) && (spec_l1Cur_board_l3 F few9 full10 c12 r11 c13 c14 b16).isSome) (spec_l1Cur_board_o3 few9 full10 c12 ((spec_l1Cur_board_l3 F few9 full10 c12 r11 c13 c14 b16).getD default)) .fail
  | _, _, _, _ => .fail⟩
theorem spec_l1Cur_board_step3 (F : Nat) (few9 : Bool) (full10 : Bool) (c12 : List Int) (r11 : Int) (c13 : Int) (c14 : Int) (b16 : List Int) {R : Type} (k : Out → Option R) : stepS tt (spec_l1Cur_board_tab F) (spec_l1Cur_board_LS1 F) 70 (spec_l1Cur_board_ls3 F) (loopAt 3 (bodyOf Try.f18)) (spec_l1Cur_board_st3 few9 full10 c12 r11 c13 c14 b16) k = spec_l1Cur_board_s3 F few9 full10 c12 R (r11, c13, c14, b16) (fun s => k (.norm (spec_l1Cur_board_st3 few9 full10 c12 s.1 s.2.1 s.2.2.1 s.2.2.2))) (fun x => (spec_l1Cur_board_o3 few9 full10 c12 x).run k) := by kernel_rfl
theorem spec_l1Cur_board_iter3 (F : Nat) (few9 : Bool) (full10 : Bool) (c12 : List Int) {R : Type} (k : Out → Option R) : ∀ (n : Nat) (r11 : Int) (c13 : Int) (c14 : Int) (b16 : List Int), iterS tt (spec_l1Cur_board_tab F) (spec_l1Cur_board_LS1 F) 70 (spec_l1Cur_board_ls3 F) (loopAt 3 (bodyOf Try.f18)) n (spec_l1Cur_board_st3 few9 full10 c12 r11 c13 c14 b16) k = loopC (spec_l1Cur_board_s3 F few9 full10 c12) n (r11, c13, c14, b16) (fun x => (spec_l1Cur_board_o3 few9 full10 c12 x).run k)
  | 0, r11, c13, c14, b16 => rfl
  | n + 1, r11, c13, c14, b16 => (iterS_succ tt (spec_l1Cur_board_tab F) (spec_l1Cur_board_LS1 F) 70 (spec_l1Cur_board_ls3 F) (loopAt 3 (bodyOf Try.f18)) n (spec_l1Cur_board_st3 few9 full10 c12 r11 c13 c14 b16) k).trans ((spec_l1Cur_board_step3 F few9 full10 c12 r11 c13 c14 b16 (nextK (iterS tt (spec_l1Cur_board_tab F) (spec_l1Cur_board_LS1 F) 70 (spec_l1Cur_board_ls3 F) (loopAt 3 (bodyOf Try.f18)) n) k)).trans (congrArg (fun kn => spec_l1Cur_board_s3 F few9 full10 c12 R (r11, c13, c14, b16) kn _) (funext (fun ⟨r11, c13, c14, b16⟩ => spec_l1Cur_board_iter3 F few9 full10 c12 k n r11 c13 c14 b16))))
theorem spec_l1Cur_board_lok3 (F : Nat) : LoopOK Try.prog (loopAt 3 (bodyOf Try.f18)) (spec_l1Cur_board_ls3 F) := by
  refine loopOK_of mixed ttok deep (spec_l1Cur_board_tabok F) (loopsOK_at (spec_l1Cur_board_lsok1 F) 3) (fuel := 70) fun R vals mem np killed k x h => ?_
  simp only [spec_l1Cur_board_ls3] at h
  split at h
  · rename_i few9 full10 r11 c12 c13 c14 q_t215 b16
    simp only [GT.run] at h
    have hc := (cond_noneL h).1
    replace h := (cond_noneL h).2
    have hg := (and_split hc).1
    replace hc := (and_split hc).2
    obtain rfl := beq_li hg
    refine ⟨F, (spec_l1Cur_board_iter3 F few9 full10 c12 k F r11 c13 c14 b16).trans ((loopC_use (spec_l1Cur_board_s3_nat F few9 full10 c12) hc _).trans h)⟩
  · simp only [GT.run] at h
    cases h
noncomputable def spec_l1Cur_board_LS2 (F : Nat) : LT := (3, spec_l1Cur_board_ls3 F) :: spec_l1Cur_board_LS1 F
theorem spec_l1Cur_board_lsok2 (F : Nat) : LoopsOK Try.prog (spec_l1Cur_board_LS2 F) (bodyOf Try.f18) := loopsOK_cons spec_l1Cur_board_keys (spec_l1Cur_board_lok3 F) (spec_l1Cur_board_lsok1 F)
def spec_l1Cur_board_st29 (r9 : Int) (c11 : List Int) (k10 : Int) (c12 : Int) (c13 : Int) (b15 : List Int) : St := ⟨expand 110 0 [0, 2, 3, 11, 12] [(.ptr 0 0 0 3), (.ptr 1 0 0 16), (.ptr 2 0 0 16), (.int .i64 r9), (.int .i64 k10)], [(.var 3 (.rv [(.ri .u8 c11), (.int .i64 c12), (.int .u64 c13)])), (.var 16 (.ri .i64 [(0 : Int), (0 : Int), (0 : Int), (0 : Int), (0 : Int), (0 : Int), (0 : Int), (0 : Int), (0 : Int), (0 : Int), (0 : Int), (0 : Int), (0 : Int), (0 : Int), (0 : Int), (0 : Int)])), (.var 16 (.ri .i64 b15))], 1, []⟩
def spec_l1Cur_board_o29 (r9 : Int) (c11 : List Int) (x : Int × Int × List Int) : GT := (.out (.exit 7 ⟨expand 110 0 [0, 2, 3, 11] [(.ptr 0 0 0 3), (.ptr 1 0 0 16), (.ptr 2 0 0 16), (.int .i64 r9)], [(.var 3 (.rv [(.ri .u8 c11), (.int .i64 x.1), (.int .u64 x.2.1)])), (.var 16 (.ri .i64 [(0 : Int), (0 : Int), (0 : Int), (0 : Int), (0 : Int), (0 : Int), (0 : Int), (0 : Int), (0 : Int), (0 : Int), (0 : Int), (0 : Int), (0 : Int), (0 : Int), (0 : Int), (0 : Int)])), (.var 16 (.ri .i64 x.2.2))], 1, []⟩))
def spec_l1Cur_board_ls29 (F : Nat) : LoopS := ⟨110, [0, 2, 3, 11, 12], [], [0, 2, 3, 11], [], [2], [], [], fun vals mem np killed => match vals, mem, np, killed with
  | [(.ptr 0 0 0 3), (.ptr 1 0 0 16), (.ptr 2 0 0 16), (.int .i64 r9), (.int .i64 k10)], [(.var 3 (.rv [(.ri .u8 c11), (.int .i64 c12), (.int .u64 c13)])), (.var 16 (.ri .i64 q_t214)), (.var 16 (.ri .i64 b15))], 1, [] => .br ((q_t214 == ([(0 : Int), (0 : Int), (0 : Int), (0 : Int), (0 : Int), (0 : Int), (0 : Int), (0 : Int), (0 : Int), (0 : Int), (0 : Int), (0 : Int), (0 : Int), (0 : Int), (0 : Int), (0 : Int)] : List Int)) && (spec_l1Cur_board_l29 F r9 c11 k10 c12 c13 b15).isSome) (spec_l1Cur_board_o29 r9 c11 ((spec_l1Cur_board_l29 F r9 c11 k10 c12 c13 b15).getD default)) .fail
  | _, _, _, _ => .fail⟩
theorem spec_l1Cur_board_step29 (F : Nat) (r9 : Int) (c11 : List Int) (k10 : Int) (c12 : Int) (c13 : Int) (b15 : List Int) {R : Type} (k : Out → Option R) : stepS tt (spec_l1Cur_board_tab F) (spec_l1Cur_board_LS2 F) 70 (spec_l1Cur_board_ls29 F) (loopAt 29 (bodyOf Try.f18)) (spec_l1Cur_board_st29 r9 c11 k10 c12 c13 b15) k = spec_l1Cur_board_s29 F r9 c11 R (k10, c12, c13, b15) (fun s => k (.norm (spec_l1Cur_board_st29 r9 c11 s.1 s.2.1 s.2.2.1 s.2.2.2))) (fun x => (spec_l1Cur_board_o29 r9 c11 x).run k) := by kernel_rfl
theorem spec_l1Cur_board_iter29 (F : Nat) (r9 : Int) (c11 : List Int) {R : Type} (k : Out → Option R) : ∀ (n : Nat) (k10 : Int) (c12 : Int) (c13 : Int) (b15 : List Int), iterS tt (spec_l1Cur_board_tab F) (spec_l1Cur_board_LS2 F) 70 (spec_l1Cur_board_ls29 F) (loopAt 29 (bodyOf Try.f18)) n (spec_l1Cur_board_st29 r9 c11 k10 c12 c13 b15) k = loopC (spec_l1Cur_board_s29 F r9 c11) n (k10, c12, c13, b15) (fun x => (spec_l1Cur_board_o29 r9 c11 x).run k)
  | 0, k10, c12, c13, b15 => rfl
  | n + 1, k10, c12, c13, b15 => (iterS_succ tt (spec_l1Cur_board_tab F) (spec_l1Cur_board_LS2 F) 70 (spec_l1Cur_board_ls29 F) (loopAt 29 (bodyOf Try.f18)) n (spec_l1Cur_board_st29 r9 c11 k10 c12 c13 b15) k).trans ((spec_l1Cur_board_step29 F r9 c11 k10 c12 c13 b15 (nextK (iterS tt (spec_l1Cur_board_tab F) (spec_l1Cur_board_LS2 F) 70 (spec_l1Cur_board_ls29 F) (loopAt 29 (bodyOf Try.f18)) n) k)).trans (congrArg (fun kn => spec_l1Cur_board_s29 F r9 c11 R (k10, c12, c13, b15) kn _) (funext (fun ⟨k10, c12, c13, b15⟩ => spec_l1Cur_board_iter29 F r9 c11 k n k10 c12 c13 b15))))
theorem spec_l1Cur_board_lok29 (F : Nat) : LoopOK Try.prog (loopAt 29 (bodyOf Try.f18)) (spec_l1Cur_board_ls29 F) := by
  refine loopOK_of mixed ttok deep (spec_l1Cur_board_tabok F) (loopsOK_at (spec_l1Cur_board_lsok2 F) 29) (fuel := 70) fun R vals mem np killed k x h => ?_
  simp only [spec_l1Cur_board_ls29] at h
  split at h
  · rename_i r9 k10 c11 c12 c13 q_t214 b15
    simp only [GT.run] at h
    have hc := (cond_noneL h).1
    replace h := (cond_noneL h).2
    have hg := (and_split hc).1
    replace hc := (and_split hc).2
    obtain rfl := beq_li hg
    refine ⟨F, (spec_l1Cur_board_iter29 F r9 c11 k F k10 c12 c13 b15).trans ((loopC_use (spec_l1Cur_board_s29_nat F r9 c11) hc _).trans h)⟩
  · simp only [GT.run] at h
    cases h
noncomputable def spec_l1Cur_board_LS3 (F : Nat) : LT := (29, spec_l1Cur_board_ls29 F) :: spec_l1Cur_board_LS2 F
theorem spec_l1Cur_board_lsok3 (F : Nat) : LoopsOK Try.prog (spec_l1Cur_board_LS3 F) (bodyOf Try.f18) := loopsOK_cons spec_l1Cur_board_keys (spec_l1Cur_board_lok29 F) (spec_l1Cur_board_lsok2 F)
def spec_l1Cur_board_st26 (c10 : List Int) (r9 : Int) (c11 : Int) (c12 : Int) (b14 : List Int) : St := ⟨expand 110 0 [0, 2, 3, 11] [(.ptr 0 0 0 3), (.ptr 1 0 0 16), (.ptr 2 0 0 16), (.int .i64 r9)], [(.var 3 (.rv [(.ri .u8 c10), (.int .i64 c11), (.int .u64 c12)])), (.var 16 (.ri .i64 [(0 : Int), (0 : Int), (0 : Int), (0 : Int), (0 : Int), (0 : Int), (0 : Int), (0 : Int), (0 : Int), (0 : Int), (0 : Int), (0 : Int), (0 : Int), (0 : Int), (0 : Int), (0 : Int)])), (.var 16 (.ri .i64 b14))], 1, []⟩
def spec_l1Cur_board_o26 (c10 : List Int) (x : Int × Int × List Int) : GT := (.out (.exit 5 ⟨expand 110 0 [2, 3] [(.ptr 1 0 0 16), (.ptr 2 0 0 16)], [(.var 3 (.rv [(.ri .u8 c10), (.int .i64 x.1), (.int .u64 x.2.1)])), (.var 16 (.ri .i64 [(0 : Int), (0 : Int), (0 : Int), (0 : Int), (0 : Int), (0 : Int), (0 : Int), (0 : Int), (0 : Int), (0 : Int), (0 : Int), (0 : Int), (0 : Int), (0 : Int), (0 : Int), (0 : Int)])), (.var 16 (.ri .i64 x.2.2))], 1, []⟩))
def spec_l1Cur_board_ls26 (F : Nat) : LoopS := ⟨110, [0, 2, 3, 11], [], [2, 3], [], [2], [], [], fun vals mem np killed => match vals, mem, np, killed with
  | [(.ptr 0 0 0 3), (.ptr 1 0 0 16), (.ptr 2 0 0 16), (.int .i64 r9)], [(.var 3 (.rv [(.ri .u8 c10), (.int .i64 c11), (.int .u64 c12)])), (.var 16 (.ri .i64 q_t213)), (.var 16 (.ri .i64 b14))], 1, [] => .br ((q_t213 == ([(0 : Int), (0 : Int), (0 : Int), (0 : Int), (0 : Int), (0 : Int), (0 : Int), (0 : Int), (0 : Int), (0 : Int), (0 : Int), (0 : Int), (0 : Int), (0 : Int), (0 : Int), (0 : Int)] : List Int)) && (spec_l1Cur_board_l26 F c10 r9 c11 c12 b14).isSome) (spec_l1Cur_board_o26 c10 ((spec_l1Cur_board_l26 F c10 r9 c11 c12 b14).getD default)) .fail
  | _, _, _, _ => .fail⟩
theorem spec_l1Cur_board_step26 (F : Nat) (c10 : List Int) (r9 : Int) (c11 : Int) (c12 : Int) (b14 : List Int) {R : Type} (k : Out → Option R) : stepS tt (spec_l1Cur_board_tab F) (spec_l1Cur_board_LS3 F) 70 (spec_l1Cur_board_ls26 F) (loopAt 26 (bodyOf Try.f18)) (spec_l1Cur_board_st26 c10 r9 c11 c12 b14) k = spec_l1Cur_board_s26 F c10 R (r9, c11, c12, b14) (fun s => k (.norm (spec_l1Cur_board_st26 c10 s.1 s.2.1 s.2.2.1 s.2.2.2))) (fun x => (spec_l1Cur_board_o26 c10 x).run k) := by kernel_rfl
theorem spec_l1Cur_board_iter26 (F : Nat) (c10 : List Int) {R : Type} (k : Out → Option R) : ∀ (n : Nat) (r9 : Int) (c11 : Int) (c12 : Int) (b14 : List Int), iterS tt (spec_l1Cur_board_tab F) (spec_l1Cur_board_LS3 F) 70 (spec_l1Cur_board_ls26 F) (loopAt 26 (bodyOf Try.f18)) n (spec_l1Cur_board_st26 c10 r9 c11 c12 b14) k = loopC (spec_l1Cur_board_s26 F c10) n (r9, c11, c12, b14) (fun x => (spec_l1Cur_board_o26 c10 x).run k)
  | 0, r9, c11, c12, b14 => rfl
  | n + 1, r9, c11, c12, b14 => (iterS_succ tt (spec_l1Cur_board_tab F) (spec_l1Cur_board_LS3 F) 70 (spec_l1Cur_board_ls26 F) (loopAt 26 (bodyOf Try.f18)) n (spec_l1Cur_board_st26 c10 r9 c11 c12 b14) k).trans ((spec_l1Cur_board_step26 F c10 r9 c11 c12 b14 (nextK (iterS tt (spec_l1Cur_board_tab F) (spec_l1Cur_board_LS3 F) 70 (spec_l1Cur_board_ls26 F) (loopAt 26 (bodyOf Try.f18)) n) k)).trans (congrArg (fun kn => spec_l1Cur_board_s26 F c10 R (r9, c11, c12, b14) kn _) (funext (fun ⟨r9, c11, c12, b14⟩ => spec_l1Cur_board_iter26 F c10 k n r9 c11 c12 b14))))
theorem spec_l1Cur_board_lok26 (F : Nat) : LoopOK Try.prog (loopAt 26 (bodyOf Try.f18)) (spec_l1Cur_board_ls26 F) := by
  refine loopOK_of mixed ttok deep (spec_l1Cur_board_tabok F) (loopsOK_at (spec_l1Cur_board_lsok3 F) 26) (fuel := 70) fun R vals mem np killed k x h => ?_
  simp only [spec_l1Cur_board_ls26] at h
  split at h
  · rename_i r9 c10 c11 c12 q_t213 b14
    simp only [GT.run] at h
    have hc := (cond_noneL h).1
    replace h := (cond_noneL h).2
    have hg := (and_split hc).1
    replace hc := (and_split hc).2
    obtain rfl := beq_li hg
    refine ⟨F, (spec_l1Cur_board_iter26 F c10 k F r9 c11 c12 b14).trans ((loopC_use (spec_l1Cur_board_s26_nat F c10) hc _).trans h)⟩
  · simp only [GT.run] at h
    cases h
noncomputable def spec_l1Cur_board_LS4 (F : Nat) : LT := (26, spec_l1Cur_board_ls26 F) :: spec_l1Cur_board_LS3 F
theorem spec_l1Cur_board_lsok4 (F : Nat) : LoopsOK Try.prog (spec_l1Cur_board_LS4 F) (bodyOf Try.f18) := loopsOK_cons spec_l1Cur_board_keys (spec_l1Cur_board_lok26 F) (spec_l1Cur_board_lsok3 F)
theorem spec_l1Cur_board_run (F : Nat) (c3 : List Int) (c4 : Int) (c5 : Int) : runS tt (spec_l1Cur_board_tab F) (spec_l1Cur_board_LS4 F) [] [] Try.f18 (bodyOf Try.f18) 70 [(.ptr 0 0 0 3)] [(.var 3 (.rv [(.ri .u8 c3), (.int .i64 c4), (.int .u64 c5)]))] = spec_l1Cur_board_c _ F c3 c4 c5 (fun r => some ⟨(.ints 16 r.1), [(.var 3 (.rv [(.ri .u8 c3), (.int .i64 r.2.1), (.int .u64 r.2.2)]))], []⟩) := by kernel_rfl
def spec_l1Cur_board_ent (F : Nat) : Ent := ⟨[], .loud, fun args mem => match args, mem with
  | [(.ptr 0 0 0 3)], [(.var 3 (.rv [(.ri .u8 c3), (.int .i64 c4), (.int .u64 c5)]))] => some ((spec_l1Cur_board_p F c3 c4 c5).isSome, ⟨(.ints 16 ((spec_l1Cur_board_p F c3 c4 c5).getD default).1), [(.var 3 (.rv [(.ri .u8 c3), (.int .i64 ((spec_l1Cur_board_p F c3 c4 c5).getD default).2.1), (.int .u64 ((spec_l1Cur_board_p F c3 c4 c5).getD default).2.2)]))], []⟩)
  | _, _ => none⟩
theorem spec_l1Cur_board_fok : FunOK Try.prog 18 := funOK Try.func18 (by kernel_rfl) rfl
theorem spec_l1Cur_board_meets (F : Nat) : Meets Try.prog 18 (spec_l1Cur_board_ent F) := by
  refine meets_of_runS mixed ttok deep (spec_l1Cur_board_tabok F) Try.func18 (body_some rfl) (spec_l1Cur_board_lsok4 F) fun args mem hfit ret h => ?_
  clear hfit
  simp only [spec_l1Cur_board_ent] at h
  split at h
  · rename_i c3 c4 c5
    simp only [Option.some.injEq, Prod.mk.injEq] at h
    obtain ⟨hc, rfl⟩ := h
    exact ⟨[], [], 70, _, (spec_l1Cur_board_run F c3 c4 c5).trans ((spec_l1Cur_board_cp _ F c3 c4 c5 _).trans (bind_use hc _)), rfl, rfl, rfl⟩
  · cases h

/-! (*loop.example/g01194/spec.l1Cur).side -/
noncomputable def spec_l1Cur_side_tab (F : Nat) : Tab := [(19, (spec_l1Cur_one_ent F)), (26, (spec_l1Cur_among_ent F)), (27, (spec_l1Cur_pick_ent F))]
theorem spec_l1Cur_side_tabok (F : Nat) : TabOK Try.prog (spec_l1Cur_side_tab F) := (tab_cons (spec_l1Cur_one_meets F) spec_l1Cur_one_fok (tab_cons (spec_l1Cur_among_meets F) spec_l1Cur_among_fok (tab_cons (spec_l1Cur_pick_meets F) spec_l1Cur_pick_fok tab_nil)))
noncomputable def spec_l1Cur_side_LS0 (F : Nat) : LT := []
theorem spec_l1Cur_side_lsok0 (F : Nat) : LoopsOK Try.prog (spec_l1Cur_side_LS0 F) (bodyOf Try.f44) := loopsOK_nil
theorem spec_l1Cur_side_run (F : Nat) (c3 : List Int) (c4 : Int) (c5 : Int) : runS tt (spec_l1Cur_side_tab F) (spec_l1Cur_side_LS0 F) [] [] Try.f44 (bodyOf Try.f44) 70 [(.ptr 0 0 0 3)] [(.var 3 (.rv [(.ri .u8 c3), (.int .i64 c4), (.int .u64 c5)]))] = spec_l1Cur_side_c _ c3 c4 c5 (fun r => some ⟨(.int .i64 r.1), [(.var 3 (.rv [(.ri .u8 c3), (.int .i64 r.2.1), (.int .u64 r.2.2)]))], []⟩) := by kernel_rfl
def spec_l1Cur_side_ent (F : Nat) : Ent := ⟨[], .loud, fun args mem => match args, mem with
  | [(.ptr 0 0 0 3)], [(.var 3 (.rv [(.ri .u8 c3), (.int .i64 c4), (.int .u64 c5)]))] => some ((spec_l1Cur_side_p c3 c4 c5).isSome, ⟨(.int .i64 ((spec_l1Cur_side_p c3 c4 c5).getD default).1), [(.var 3 (.rv [(.ri .u8 c3), (.int .i64 ((spec_l1Cur_side_p c3 c4 c5).getD default).2.1), (.int .u64 ((spec_l1Cur_side_p c3 c4 c5).getD default).2.2)]))], []⟩)
  | _, _ => none⟩
theorem spec_l1Cur_side_fok : FunOK Try.prog 44 := funOK Try.func44 (by kernel_rfl) rfl
theorem spec_l1Cur_side_meets (F : Nat) : Meets Try.prog 44 (spec_l1Cur_side_ent F) := by
  refine meets_of_runS mixed ttok deep (spec_l1Cur_side_tabok F) Try.func44 (body_some rfl) (spec_l1Cur_side_lsok0 F) fun args mem hfit ret h => ?_
  clear hfit
  simp only [spec_l1Cur_side_ent] at h
  split at h
  · rename_i c3 c4 c5
    simp only [Option.some.injEq, Prod.mk.injEq] at h
    obtain ⟨hc, rfl⟩ := h
    exact ⟨[], [], 70, _, (spec_l1Cur_side_run F c3 c4 c5).trans ((spec_l1Cur_side_cp _ c3 c4 c5 _).trans (bind_use hc _)), rfl, rfl, rfl⟩
  · cases h

/-! (*loop.example/g01194/spec.l1Cur).cell -/
noncomputable def spec_l1Cur_cell_tab (F : Nat) : Tab := [(19, (spec_l1Cur_one_ent F)), (26, (spec_l1Cur_among_ent F)), (27, (spec_l1Cur_pick_ent F))]
theorem spec_l1Cur_cell_tabok (F : Nat) : TabOK Try.prog (spec_l1Cur_cell_tab F) := (tab_cons (spec_l1Cur_one_meets F) spec_l1Cur_one_fok (tab_cons (spec_l1Cur_among_meets F) spec_l1Cur_among_fok (tab_cons (spec_l1Cur_pick_meets F) spec_l1Cur_pick_fok tab_nil)))
noncomputable def spec_l1Cur_cell_LS0 (F : Nat) : LT := []
theorem spec_l1Cur_cell_lsok0 (F : Nat) : LoopsOK Try.prog (spec_l1Cur_cell_LS0 F) (bodyOf Try.f45) := loopsOK_nil
theorem spec_l1Cur_cell_run (F : Nat) (c3 : List Int) (c4 : Int) (c5 : Int) : runS tt (spec_l1Cur_cell_tab F) (spec_l1Cur_cell_LS0 F) [] [] Try.f45 (bodyOf Try.f45) 70 [(.ptr 0 0 0 3)] [(.var 3 (.rv [(.ri .u8 c3), (.int .i64 c4), (.int .u64 c5)]))] = spec_l1Cur_cell_c _ c3 c4 c5 (fun r => some ⟨(.ints 2 r.1), [(.var 3 (.rv [(.ri .u8 c3), (.int .i64 r.2.1), (.int .u64 r.2.2)]))], []⟩) := by kernel_rfl
def spec_l1Cur_cell_ent (F : Nat) : Ent := ⟨[], .loud, fun args mem => match args, mem with
  | [(.ptr 0 0 0 3)], [(.var 3 (.rv [(.ri .u8 c3), (.int .i64 c4), (.int .u64 c5)]))] => some ((spec_l1Cur_cell_p c3 c4 c5).isSome, ⟨(.ints 2 ((spec_l1Cur_cell_p c3 c4 c5).getD default).1), [(.var 3 (.rv [(.ri .u8 c3), (.int .i64 ((spec_l1Cur_cell_p c3 c4 c5).getD default).2.1), (.int .u64 ((spec_l1Cur_cell_p c3 c4 c5).getD default).2.2)]))], []⟩)
  | _, _ => none⟩
theorem spec_l1Cur_cell_fok : FunOK Try.prog 45 := funOK Try.func45 (by kernel_rfl) rfl
theorem spec_l1Cur_cell_meets (F : Nat) : Meets Try.prog 45 (spec_l1Cur_cell_ent F) := by
  refine meets_of_runS mixed ttok deep (spec_l1Cur_cell_tabok F) Try.func45 (body_some rfl) (spec_l1Cur_cell_lsok0 F) fun args mem hfit ret h => ?_
  clear hfit
  simp only [spec_l1Cur_cell_ent] at h
  split at h
  · rename_i c3 c4 c5
    simp only [Option.some.injEq, Prod.mk.injEq] at h
    obtain ⟨hc, rfl⟩ := h
    exact ⟨[], [], 70, _, (spec_l1Cur_cell_run F c3 c4 c5).trans ((spec_l1Cur_cell_cp _ c3 c4 c5 _).trans (bind_use hc _)), rfl, rfl, rfl⟩
  · cases h

/-! loop.example/g01194/spec.l1In -/
noncomputable def spec_l1In_tab (F : Nat) : Tab := []
theorem spec_l1In_tabok (F : Nat) : TabOK Try.prog (spec_l1In_tab F) := tab_nil
noncomputable def spec_l1In_LS0 (F : Nat) : LT := []
theorem spec_l1In_lsok0 (F : Nat) : LoopsOK Try.prog (spec_l1In_LS0 F) (bodyOf Try.f30) := loopsOK_nil
theorem spec_l1In_run (F : Nat) (x0 : Int) (a1 : Int) (b2 : Int) : runS tt (spec_l1In_tab F) (spec_l1In_LS0 F) [] [] Try.f30 (bodyOf Try.f30) 70 [(.int .i64 x0), (.int .i64 a1), (.int .i64 b2)] [] = spec_l1In_c _ x0 a1 b2 (fun r => some ⟨(.bool r), [], []⟩) := by kernel_rfl
def spec_l1In_ent (F : Nat) : Ent := ⟨[], .quiet, fun args mem => match args, mem with
  | [(.int .i64 x0), (.int .i64 a1), (.int .i64 b2)], [] => some (true, ⟨(.bool (spec_l1In_v x0 a1 b2)), [], []⟩)
  | _, _ => none⟩
theorem spec_l1In_fok : FunOK Try.prog 30 := funOK Try.func30 (by kernel_rfl) rfl
theorem spec_l1In_meets (F : Nat) : Meets Try.prog 30 (spec_l1In_ent F) := by
  refine meets_of_runS mixed ttok deep (spec_l1In_tabok F) Try.func30 (body_some rfl) (spec_l1In_lsok0 F) fun args mem hfit ret h => ?_
  clear hfit
  simp only [spec_l1In_ent] at h
  split at h
  · rename_i x0 a1 b2
    simp only [Option.some.injEq, Prod.mk.injEq] at h
    obtain ⟨hc, rfl⟩ := h
    exact ⟨[], [], 70, _, (spec_l1In_run F x0 a1 b2).trans (spec_l1In_cv _ x0 a1 b2 _), rfl, rfl, rfl⟩
  · cases h

/-! loop.example/g01194/spec.l2Board -/
noncomputable def spec_l2Board_tab (F : Nat) : Tab := [(30, (spec_l1In_ent F))]
theorem spec_l2Board_tabok (F : Nat) : TabOK Try.prog (spec_l2Board_tab F) := (tab_cons (spec_l1In_meets F) spec_l1In_fok tab_nil)
noncomputable def spec_l2Board_LS0 (F : Nat) : LT := []
theorem spec_l2Board_lsok0 (F : Nat) : LoopsOK Try.prog (spec_l2Board_LS0 F) (bodyOf Try.f24) := loopsOK_nil
theorem spec_l2Board_keys : keysOK (bodyOf Try.f24) = true := by kernel_rfl
def spec_l2Board_st5 (r3 : Int) (b5 : List Int) (c4 : Int) : St := ⟨expand 21 0 [1, 3, 4] [(.ptr 0 0 0 16), (.int .i64 r3), (.int .i64 c4)], [(.var 16 (.ri .i64 b5))], 0, []⟩
def spec_l2Board_o5 (r3 : Int) (b5 : List Int) (x : Bool) : GT := (.br x (.out (.ret ⟨expand 21 0 [2] [(.bool false)], [], 0, []⟩)) (.out (.exit 2 ⟨expand 21 0 [1, 3] [(.ptr 0 0 0 16), (.int .i64 r3)], [(.var 16 (.ri .i64 b5))], 0, []⟩)))
def spec_l2Board_ls5 (F : Nat) : LoopS := ⟨21, [1, 3, 4], [], [1, 3], [], [2], [], [], fun vals mem np killed => match vals, mem, np, killed with
  | [(.ptr 0 0 0 16), (.int .i64 r3), (.int .i64 c4)], [(.var 16 (.ri .i64 b5))], 0, [] => .br (spec_l2Board_l5 F r3 b5 c4).isSome (spec_l2Board_o5 r3 b5 ((spec_l2Board_l5 F r3 b5 c4).getD default)) .fail
  | _, _, _, _ => .fail⟩
theorem spec_l2Board_step5 (F : Nat) (r3 : Int) (b5 : List Int) (c4 : Int) {R : Type} (k : Out → Option R) : stepS tt (spec_l2Board_tab F) (spec_l2Board_LS0 F) 70 (spec_l2Board_ls5 F) (loopAt 5 (bodyOf Try.f24)) (spec_l2Board_st5 r3 b5 c4) k = spec_l2Board_s5 F r3 b5 R c4 (fun s => k (.norm (spec_l2Board_st5 r3 b5 s))) (fun x => (spec_l2Board_o5 r3 b5 x).run k) := by kernel_rfl
theorem spec_l2Board_iter5 (F : Nat) (r3 : Int) (b5 : List Int) {R : Type} (k : Out → Option R) : ∀ (n : Nat) (c4 : Int), iterS tt (spec_l2Board_tab F) (spec_l2Board_LS0 F) 70 (spec_l2Board_ls5 F) (loopAt 5 (bodyOf Try.f24)) n (spec_l2Board_st5 r3 b5 c4) k = loopC (spec_l2Board_s5 F r3 b5) n c4 (fun x => (spec_l2Board_o5 r3 b5 x).run k)
  | 0, c4 => rfl
  | n + 1, c4 => (iterS_succ tt (spec_l2Board_tab F) (spec_l2Board_LS0 F) 70 (spec_l2Board_ls5 F) (loopAt 5 (bodyOf Try.f24)) n (spec_l2Board_st5 r3 b5 c4) k).trans ((spec_l2Board_step5 F r3 b5 c4 (nextK (iterS tt (spec_l2Board_tab F) (spec_l2Board_LS0 F) 70 (spec_l2Board_ls5 F) (loopAt 5 (bodyOf Try.f24)) n) k)).trans (congrArg (fun kn => spec_l2Board_s5 F r3 b5 R c4 kn _) (funext (fun c4 => spec_l2Board_iter5 F r3 b5 k n c4))))
theorem spec_l2Board_lok5 (F : Nat) : LoopOK Try.prog (loopAt 5 (bodyOf Try.f24)) (spec_l2Board_ls5 F) := by
  refine loopOK_of mixed ttok deep (spec_l2Board_tabok F) (loopsOK_at (spec_l2Board_lsok0 F) 5) (fuel := 70) fun R vals mem np killed k x h => ?_
  simp only [spec_l2Board_ls5] at h
  split at h
  · rename_i r3 c4 b5
    simp only [GT.run] at h
    have hc := (cond_noneL h).1
    replace h := (cond_noneL h).2
    refine ⟨F, (spec_l2Board_iter5 F r3 b5 k F c4).trans ((loopC_use (spec_l2Board_s5_nat F r3 b5) hc _).trans h)⟩
  · simp only [GT.run] at h
    cases h
noncomputable def spec_l2Board_LS1 (F : Nat) : LT := (5, spec_l2Board_ls5 F) :: spec_l2Board_LS0 F
theorem spec_l2Board_lsok1 (F : Nat) : LoopsOK Try.prog (spec_l2Board_LS1 F) (bodyOf Try.f24) := loopsOK_cons spec_l2Board_keys (spec_l2Board_lok5 F) (spec_l2Board_lsok0 F)
def spec_l2Board_st2 (b4 : List Int) (r3 : Int) : St := ⟨expand 21 0 [1, 3] [(.ptr 0 0 0 16), (.int .i64 r3)], [(.var 16 (.ri .i64 b4))], 0, []⟩
def spec_l2Board_o2 (b4 : List Int) (x : Bool) : GT := (.br x (.out (.ret ⟨expand 21 0 [2] [(.bool false)], [], 0, []⟩)) (.out (.exit 0 ⟨expand 21 0 [] [], [], 0, []⟩)))
def spec_l2Board_ls2 (F : Nat) : LoopS := ⟨21, [1, 3], [], [], [], [2], [], [], fun vals mem np killed => match vals, mem, np, killed with
  | [(.ptr 0 0 0 16), (.int .i64 r3)], [(.var 16 (.ri .i64 b4))], 0, [] => .br (spec_l2Board_l2 F b4 r3).isSome (spec_l2Board_o2 b4 ((spec_l2Board_l2 F b4 r3).getD default)) .fail
  | _, _, _, _ => .fail⟩
theorem spec_l2Board_step2 (F : Nat) (b4 : List Int) (r3 : Int) {R : Type} (k : Out → Option R) : stepS tt (spec_l2Board_tab F) (spec_l2Board_LS1 F) 70 (spec_l2Board_ls2 F) (loopAt 2 (bodyOf Try.f24)) (spec_l2Board_st2 b4 r3) k = spec_l2Board_s2 F b4 R r3 (fun s => k (.norm (spec_l2Board_st2 b4 s))) (fun x => (spec_l2Board_o2 b4 x).run k) := by kernel_rfl
theorem spec_l2Board_iter2 (F : Nat) (b4 : List Int) {R : Type} (k : Out → Option R) : ∀ (n : Nat) (r3 : Int), iterS tt (spec_l2Board_tab F) (spec_l2Board_LS1 F) 70 (spec_l2Board_ls2 F) (loopAt 2 (bodyOf Try.f24)) n (spec_l2Board_st2 b4 r3) k = loopC (spec_l2Board_s2 F b4) n r3 (fun x => (spec_l2Board_o2 b4 x).run k)
  | 0, r3 => rfl
  | n + 1, r3 => (iterS_succ tt (spec_l2Board_tab F) (spec_l2Board_LS1 F) 70 (spec_l2Board_ls2 F) (loopAt 2 (bodyOf Try.f24)) n (spec_l2Board_st2 b4 r3) k).trans ((spec_l2Board_step2 F b4 r3 (nextK (iterS tt (spec_l2Board_tab F) (spec_l2Board_LS1 F) 70 (spec_l2Board_ls2 F) (loopAt 2 (bodyOf Try.f24)) n) k)).trans (congrArg (fun kn => spec_l2Board_s2 F b4 R r3 kn _) (funext (fun r3 => spec_l2Board_iter2 F b4 k n r3))))
theorem spec_l2Board_lok2 (F : Nat) : LoopOK Try.prog (loopAt 2 (bodyOf Try.f24)) (spec_l2Board_ls2 F) := by
  refine loopOK_of mixed ttok deep (spec_l2Board_tabok F) (loopsOK_at (spec_l2Board_lsok1 F) 2) (fuel := 70) fun R vals mem np killed k x h => ?_
  simp only [spec_l2Board_ls2] at h
  split at h
  · rename_i r3 b4
    simp only [GT.run] at h
    have hc := (cond_noneL h).1
    replace h := (cond_noneL h).2
    refine ⟨F, (spec_l2Board_iter2 F b4 k F r3).trans ((loopC_use (spec_l2Board_s2_nat F b4) hc _).trans h)⟩
  · simp only [GT.run] at h
    cases h
noncomputable def spec_l2Board_LS2 (F : Nat) : LT := (2, spec_l2Board_ls2 F) :: spec_l2Board_LS1 F
theorem spec_l2Board_lsok2 (F : Nat) : LoopsOK Try.prog (spec_l2Board_LS2 F) (bodyOf Try.f24) := loopsOK_cons spec_l2Board_keys (spec_l2Board_lok2 F) (spec_l2Board_lsok1 F)
theorem spec_l2Board_run (F : Nat) (b0 : List Int) : runS tt (spec_l2Board_tab F) (spec_l2Board_LS2 F) [] [] Try.f24 (bodyOf Try.f24) 70 [(.ints 16 b0)] [] = spec_l2Board_c _ F b0 (fun r => some ⟨(.bool r), [], []⟩) := by kernel_rfl
def spec_l2Board_ent (F : Nat) : Ent := ⟨[], .quiet, fun args mem => match args, mem with
  | [(.ints 16 b0)], [] => some ((spec_l2Board_p F b0).isSome, ⟨(.bool ((spec_l2Board_p F b0).getD default)), [], []⟩)
  | _, _ => none⟩
theorem spec_l2Board_fok : FunOK Try.prog 24 := funOK Try.func24 (by kernel_rfl) rfl
theorem spec_l2Board_meets (F : Nat) : Meets Try.prog 24 (spec_l2Board_ent F) := by
  refine meets_of_runS mixed ttok deep (spec_l2Board_tabok F) Try.func24 (body_some rfl) (spec_l2Board_lsok2 F) fun args mem hfit ret h => ?_
  clear hfit
  simp only [spec_l2Board_ent] at h
  split at h
  · rename_i b0
    simp only [Option.some.injEq, Prod.mk.injEq] at h
    obtain ⟨hc, rfl⟩ := h
    exact ⟨[], [], 70, _, (spec_l2Board_run F b0).trans ((spec_l2Board_cp _ F b0 _).trans (bind_use hc _)), rfl, rfl, rfl⟩
  · cases h

/-! loop.example/g01194/spec.l2Line -/
noncomputable def spec_l2Line_tab (F : Nat) : Tab := []
theorem spec_l2Line_tabok (F : Nat) : TabOK Try.prog (spec_l2Line_tab F) := tab_nil
noncomputable def spec_l2Line_LS0 (F : Nat) : LT := []
theorem spec_l2Line_lsok0 (F : Nat) : LoopsOK Try.prog (spec_l2Line_LS0 F) (bodyOf Try.f74) := loopsOK_nil
theorem spec_l2Line_keys : keysOK (bodyOf Try.f74) = true := by kernel_rfl
def spec_l2Line_st3 (d0 : Int) (i1 : Int) (k8 : Int) (out10 : List Int) : St := ⟨expand 42 0 [0, 1, 4, 5, 6] [(.int .i64 d0), (.int .i64 i1), (.ptr 0 0 0 8), (.ptr 1 0 0 8), (.int .i64 k8)], [(.var 8 (.ri .i64 [(0 : Int), (0 : Int), (0 : Int), (0 : Int), (0 : Int), (0 : Int), (0 : Int), (0 : Int)])), (.var 8 (.ri .i64 out10))], 0, []⟩
def spec_l2Line_o3 (d0 : Int) (i1 : Int) (x : List Int) : GT := (.out (.exit 0 ⟨expand 42 0 [4, 5] [(.ptr 0 0 0 8), (.ptr 1 0 0 8)], [(.var 8 (.ri .i64 [(0 : Int), (0 : Int), (0 : Int), (0 : Int), (0 : Int), (0 : Int), (0 : Int), (0 : Int)])), (.var 8 (.ri .i64 x))], 0, []⟩))
def spec_l2Line_ls3 (F : Nat) : LoopS := ⟨42, [0, 1, 4, 5, 6], [], [4, 5], [], [4], [], [], fun vals mem np killed => match vals, mem, np, killed with
  | [(.int .i64 d0), (.int .i64 i1), (.ptr 0 0 0 8), (.ptr 1 0 0 8), (.int .i64 k8)], [(.var 8 (.ri .i64 q_t49)), (.var 8 (.ri .i64 out10))], 0, [] => .br ((q_t49 == ([(0 : Int), (0 : Int), (0 : Int), (0 : Int), (0 : Int), (0 : Int), (0 : Int), (0 : Int)] : List Int)) && (spec_l2Line_l3 F d0 i1 k8 out10).isSome) (spec_l2Line_o3 d0 i1 ((spec_l2Line_l3 F d0 i1 k8 out10).getD default)) .fail
  | _, _, _, _ => .fail⟩
theorem spec_l2Line_step3 (F : Nat) (d0 : Int) (i1 : Int) (k8 : Int) (out10 : List Int) {R : Type} (k : Out → Option R) : stepS tt (spec_l2Line_tab F) (spec_l2Line_LS0 F) 70 (spec_l2Line_ls3 F) (loopAt 3 (bodyOf Try.f74)) (spec_l2Line_st3 d0 i1 k8 out10) k = spec_l2Line_s3 F d0 i1 R (k8, out10) (fun s => k (.norm (spec_l2Line_st3 d0 i1 s.1 s.2))) (fun x => (spec_l2Line_o3 d0 i1 x).run k) := by kernel_rfl
theorem spec_l2Line_iter3 (F : Nat) (d0 : Int) (i1 : Int) {R : Type} (k : Out → Option R) : ∀ (n : Nat) (k8 : Int) (out10 : List Int), iterS tt (spec_l2Line_tab F) (spec_l2Line_LS0 F) 70 (spec_l2Line_ls3 F) (loopAt 3 (bodyOf Try.f74)) n (spec_l2Line_st3 d0 i1 k8 out10) k = loopC (spec_l2Line_s3 F d0 i1) n (k8, out10) (fun x => (spec_l2Line_o3 d0 i1 x).run k)
  | 0, k8, out10 => rfl
  | n + 1, k8, out10 => (iterS_succ tt (spec_l2Line_tab F) (spec_l2Line_LS0 F) 70 (spec_l2Line_ls3 F) (loopAt 3 (bodyOf Try.f74)) n (spec_l2Line_st3 d0 i1 k8 out10) k).trans ((spec_l2Line_step3 F d0 i1 k8 out10 (nextK (iterS tt (spec_l2Line_tab F) (spec_l2Line_LS0 F) 70 (spec_l2Line_ls3 F) (loopAt 3 (bodyOf Try.f74)) n) k)).trans (congrArg (fun kn => spec_l2Line_s3 F d0 i1 R (k8, out10) kn _) (funext (fun ⟨k8, out10⟩ => spec_l2Line_iter3 F d0 i1 k n k8 out10))))
theorem spec_l2Line_lok3 (F : Nat) : LoopOK Try.prog (loopAt 3 (bodyOf Try.f74)) (spec_l2Line_ls3 F) := by
  refine loopOK_of mixed ttok deep (spec_l2Line_tabok F) (loopsOK_at (spec_l2Line_lsok0 F) 3) (fuel := 70) fun R vals mem np killed k x h => ?_
  simp only [spec_l2Line_ls3] at h
  split at h
  · rename_i d0 i1 k8 q_t49 out10
    simp only [GT.run] at h
    have hc := (cond_noneL h).1
    replace h := (cond_noneL h).2
    have hg := (and_split hc).1
    replace hc := (and_split hc).2
    obtain rfl := beq_li hg
    refine ⟨F, (spec_l2Line_iter3 F d0 i1 k F k8 out10).trans ((loopC_use (spec_l2Line_s3_nat F d0 i1) hc _).trans h)⟩
  · simp only [GT.run] at h
    cases h
noncomputable def spec_l2Line_LS1 (F : Nat) : LT := (3, spec_l2Line_ls3 F) :: spec_l2Line_LS0 F
theorem spec_l2Line_lsok1 (F : Nat) : LoopsOK Try.prog (spec_l2Line_LS1 F) (bodyOf Try.f74) := loopsOK_cons spec_l2Line_keys (spec_l2Line_lok3 F) (spec_l2Line_lsok0 F)
theorem spec_l2Line_run (F : Nat) (d0 : Int) (i1 : Int) : runS tt (spec_l2Line_tab F) (spec_l2Line_LS1 F) [] [] Try.f74 (bodyOf Try.f74) 70 [(.int .i64 d0), (.int .i64 i1)] [] = spec_l2Line_c _ F d0 i1 (fun r => some ⟨(.ints 8 r), [], []⟩) := by kernel_rfl
def spec_l2Line_ent (F : Nat) : Ent := ⟨[], .quiet, fun args mem => match args, mem with
  | [(.int .i64 d0), (.int .i64 i1)], [] => some ((spec_l2Line_p F d0 i1).isSome, ⟨(.ints 8 ((spec_l2Line_p F d0 i1).getD default)), [], []⟩)
  | _, _ => none⟩
theorem spec_l2Line_fok : FunOK Try.prog 74 := funOK Try.func74 (by kernel_rfl) rfl
theorem spec_l2Line_meets (F : Nat) : Meets Try.prog 74 (spec_l2Line_ent F) := by
  refine meets_of_runS mixed ttok deep (spec_l2Line_tabok F) Try.func74 (body_some rfl) (spec_l2Line_lsok1 F) fun args mem hfit ret h => ?_
  clear hfit
  simp only [spec_l2Line_ent] at h
  split at h
  · rename_i d0 i1
    simp only [Option.some.injEq, Prod.mk.injEq] at h
    obtain ⟨hc, rfl⟩ := h
    exact ⟨[], [], 70, _, (spec_l2Line_run F d0 i1).trans ((spec_l2Line_cp _ F d0 i1 _).trans (bind_use hc _)), rfl, rfl, rfl⟩
  · cases h

/-! loop.example/g01194/spec.l2At -/
noncomputable def spec_l2At_tab (F : Nat) : Tab := []
theorem spec_l2At_tabok (F : Nat) : TabOK Try.prog (spec_l2At_tab F) := tab_nil
noncomputable def spec_l2At_LS0 (F : Nat) : LT := []
theorem spec_l2At_lsok0 (F : Nat) : LoopsOK Try.prog (spec_l2At_LS0 F) (bodyOf Try.f66) := loopsOK_nil
theorem spec_l2At_run (F : Nat) (b0 : List Int) (cell1 : List Int) : runS tt (spec_l2At_tab F) (spec_l2At_LS0 F) [] [] Try.f66 (bodyOf Try.f66) 70 [(.ints 16 b0), (.ints 2 cell1)] [] = spec_l2At_c _ b0 cell1 (fun r => some ⟨(.int .i64 r), [], []⟩) := by kernel_rfl
def spec_l2At_ent (F : Nat) : Ent := ⟨[], .quiet, fun args mem => match args, mem with
  | [(.ints 16 b0), (.ints 2 cell1)], [] => some ((spec_l2At_p b0 cell1).isSome, ⟨(.int .i64 ((spec_l2At_p b0 cell1).getD default)), [], []⟩)
  | _, _ => none⟩
theorem spec_l2At_fok : FunOK Try.prog 66 := funOK Try.func66 (by kernel_rfl) rfl
theorem spec_l2At_meets (F : Nat) : Meets Try.prog 66 (spec_l2At_ent F) := by
  refine meets_of_runS mixed ttok deep (spec_l2At_tabok F) Try.func66 (body_some rfl) (spec_l2At_lsok0 F) fun args mem hfit ret h => ?_
  clear hfit
  simp only [spec_l2At_ent] at h
  split at h
  · rename_i b0 cell1
    simp only [Option.some.injEq, Prod.mk.injEq] at h
    obtain ⟨hc, rfl⟩ := h
    exact ⟨[], [], 70, _, (spec_l2At_run F b0 cell1).trans ((spec_l2At_cp _ b0 cell1 _).trans (bind_use hc _)), rfl, rfl, rfl⟩
  · cases h

/-! loop.example/g01194/spec.l2Numbers -/
noncomputable def spec_l2Numbers_tab (F : Nat) : Tab := [(74, (spec_l2Line_ent F)), (66, (spec_l2At_ent F))]
theorem spec_l2Numbers_tabok (F : Nat) : TabOK Try.prog (spec_l2Numbers_tab F) := (tab_cons (spec_l2Line_meets F) spec_l2Line_fok (tab_cons (spec_l2At_meets F) spec_l2At_fok tab_nil))
noncomputable def spec_l2Numbers_LS0 (F : Nat) : LT := []
theorem spec_l2Numbers_lsok0 (F : Nat) : LoopsOK Try.prog (spec_l2Numbers_LS0 F) (bodyOf Try.f73) := loopsOK_nil
theorem spec_l2Numbers_run (F : Nat) (b0 : List Int) (d1 : Int) (i2 : Int) : runS tt (spec_l2Numbers_tab F) (spec_l2Numbers_LS0 F) [] [] Try.f73 (bodyOf Try.f73) 70 [(.ints 16 b0), (.int .i64 d1), (.int .i64 i2)] [] = spec_l2Numbers_c _ F b0 d1 i2 (fun r => some ⟨(.ints 4 r), [], []⟩) := by kernel_rfl
def spec_l2Numbers_ent (F : Nat) : Ent := ⟨[], .quiet, fun args mem => match args, mem with
  | [(.ints 16 b0), (.int .i64 d1), (.int .i64 i2)], [] => some ((spec_l2Numbers_p F b0 d1 i2).isSome, ⟨(.ints 4 ((spec_l2Numbers_p F b0 d1 i2).getD default)), [], []⟩)
  | _, _ => none⟩
theorem spec_l2Numbers_fok : FunOK Try.prog 73 := funOK Try.func73 (by kernel_rfl) rfl
theorem spec_l2Numbers_meets (F : Nat) : Meets Try.prog 73 (spec_l2Numbers_ent F) := by
  refine meets_of_runS mixed ttok deep (spec_l2Numbers_tabok F) Try.func73 (body_some rfl) (spec_l2Numbers_lsok0 F) fun args mem hfit ret h => ?_
  clear hfit
  simp only [spec_l2Numbers_ent] at h
  split at h
  · rename_i b0 d1 i2
    simp only [Option.some.injEq, Prod.mk.injEq] at h
    obtain ⟨hc, rfl⟩ := h
    exact ⟨[], [], 70, _, (spec_l2Numbers_run F b0 d1 i2).trans ((spec_l2Numbers_cp _ F b0 d1 i2 _).trans (bind_use hc _)), rfl, rfl, rfl⟩
  · cases h

/-! loop.example/g01194/spec.l2Worth -/
noncomputable def spec_l2Worth_tab (F : Nat) : Tab := []
theorem spec_l2Worth_tabok (F : Nat) : TabOK Try.prog (spec_l2Worth_tab F) := tab_nil
noncomputable def spec_l2Worth_LS0 (F : Nat) : LT := []
theorem spec_l2Worth_lsok0 (F : Nat) : LoopsOK Try.prog (spec_l2Worth_LS0 F) (bodyOf Try.f53) := loopsOK_nil
theorem spec_l2Worth_run (F : Nat) (t0 : Int) : runS tt (spec_l2Worth_tab F) (spec_l2Worth_LS0 F) [] [] Try.f53 (bodyOf Try.f53) 70 [(.int .i64 t0)] [] = spec_l2Worth_c _ t0 (fun r => some ⟨(.int .i64 r), [], []⟩) := by kernel_rfl
def spec_l2Worth_ent (F : Nat) : Ent := ⟨[], .quiet, fun args mem => match args, mem with
  | [(.int .i64 t0)], [] => some ((spec_l2Worth_p t0).isSome, ⟨(.int .i64 ((spec_l2Worth_p t0).getD default)), [], []⟩)
  | _, _ => none⟩
theorem spec_l2Worth_fok : FunOK Try.prog 53 := funOK Try.func53 (by kernel_rfl) rfl
theorem spec_l2Worth_meets (F : Nat) : Meets Try.prog 53 (spec_l2Worth_ent F) := by
  refine meets_of_runS mixed ttok deep (spec_l2Worth_tabok F) Try.func53 (body_some rfl) (spec_l2Worth_lsok0 F) fun args mem hfit ret h => ?_
  clear hfit
  simp only [spec_l2Worth_ent] at h
  split at h
  · rename_i t0
    simp only [Option.some.injEq, Prod.mk.injEq] at h
    obtain ⟨hc, rfl⟩ := h
    exact ⟨[], [], 70, _, (spec_l2Worth_run F t0).trans ((spec_l2Worth_cp _ t0 _).trans (bind_use hc _)), rfl, rfl, rfl⟩
  · cases h

/-! loop.example/g01194/spec.l2Row -/
noncomputable def spec_l2Row_tab (F : Nat) : Tab := [(53, (spec_l2Worth_ent F))]
theorem spec_l2Row_tabok (F : Nat) : TabOK Try.prog (spec_l2Row_tab F) := (tab_cons (spec_l2Worth_meets F) spec_l2Worth_fok tab_nil)
noncomputable def spec_l2Row_LS0 (F : Nat) : LT := []
theorem spec_l2Row_lsok0 (F : Nat) : LoopsOK Try.prog (spec_l2Row_LS0 F) (bodyOf Try.f72) := loopsOK_nil
theorem spec_l2Row_keys : keysOK (bodyOf Try.f72) = true := by kernel_rfl
def spec_l2Row_st3 (row13 : List Int) (n9 : Int) (score10 : Int) (merged11 : Bool) (k12 : Int) (out15 : List Int) : St := ⟨expand 63 0 [1, 2, 4, 5, 6, 7, 8] [(.ptr 0 0 0 4), (.ptr 1 0 0 4), (.ptr 2 0 0 4), (.int .i64 n9), (.int .i64 score10), (.bool merged11), (.int .i64 k12)], [(.var 4 (.ri .i64 row13)), (.var 4 (.ri .i64 [(0 : Int), (0 : Int), (0 : Int), (0 : Int)])), (.var 4 (.ri .i64 out15))], 0, []⟩
def spec_l2Row_o3 (row13 : List Int) (x : Int × List Int) : GT := (.out (.exit 0 ⟨expand 63 0 [2, 4, 6] [(.ptr 0 0 0 4), (.ptr 1 0 0 4), (.int .i64 x.1)], [(.var 4 (.ri .i64 [(0 : Int), (0 : Int), (0 : Int), (0 : Int)])), (.var 4 (.ri .i64 x.2))], 0, []⟩))
def spec_l2Row_ls3 (F : Nat) : LoopS := ⟨63, [1, 2, 4, 5, 6, 7, 8], [], [2, 4, 6], [], [2, 3], [], [], fun vals mem np killed => match vals, mem, np, killed with
  | [(.ptr 0 0 0 4), (.ptr 1 0 0 4), (.ptr 2 0 0 4), (.int .i64 n9), (.int .i64 score10), (.bool merged11), (.int .i64 k12)], [(.var 4 (.ri .i64 row13)), (.var 4 (.ri .i64 q_t214)), (.var 4 (.ri .i64 out15))], 0, [] => .br ((q_t214 == ([(0 : Int), (0 : Int), (0 : Int), (0 : Int)] : List Int)) && (spec_l2Row_l3 F row13 n9 score10 merged11 k12 out15).isSome) (spec_l2Row_o3 row13 ((spec_l2Row_l3 F row13 n9 score10 merged11 k12 out15).getD default)) .fail
  | _, _, _, _ => .fail⟩
theorem spec_l2Row_step3 (F : Nat) (row13 : List Int) (n9 : Int) (score10 : Int) (merged11 : Bool) (k12 : Int) (out15 : List Int) {R : Type} (k : Out → Option R) : stepS tt (spec_l2Row_tab F) (spec_l2Row_LS0 F) 70 (spec_l2Row_ls3 F) (loopAt 3 (bodyOf Try.f72)) (spec_l2Row_st3 row13 n9 score10 merged11 k12 out15) k = spec_l2Row_s3 F row13 R (n9, score10, merged11, k12, out15) (fun s => k (.norm (spec_l2Row_st3 row13 s.1 s.2.1 s.2.2.1 s.2.2.2.1 s.2.2.2.2))) (fun x => (spec_l2Row_o3 row13 x).run k) := by kernel_rfl
theorem spec_l2Row_iter3 (F : Nat) (row13 : List Int) {R : Type} (k : Out → Option R) : ∀ (n : Nat) (n9 : Int) (score10 : Int) (merged11 : Bool) (k12 : Int) (out15 : List Int), iterS tt (spec_l2Row_tab F) (spec_l2Row_LS0 F) 70 (spec_l2Row_ls3 F) (loopAt 3 (bodyOf Try.f72)) n (spec_l2Row_st3 row13 n9 score10 merged11 k12 out15) k = loopC (spec_l2Row_s3 F row13) n (n9, score10, merged11, k12, out15) (fun x => (spec_l2Row_o3 row13 x).run k)
  | 0, n9, score10, merged11, k12, out15 => rfl
  | n + 1, n9, score10, merged11, k12, out15 => (iterS_succ tt (spec_l2Row_tab F) (spec_l2Row_LS0 F) 70 (spec_l2Row_ls3 F) (loopAt 3 (bodyOf Try.f72)) n (spec_l2Row_st3 row13 n9 score10 merged11 k12 out15) k).trans ((spec_l2Row_step3 F row13 n9 score10 merged11 k12 out15 (nextK (iterS tt (spec_l2Row_tab F) (spec_l2Row_LS0 F) 70 (spec_l2Row_ls3 F) (loopAt 3 (bodyOf Try.f72)) n) k)).trans (congrArg (fun kn => spec_l2Row_s3 F row13 R (n9, score10, merged11, k12, out15) kn _) (funext (fun ⟨n9, score10, merged11, k12, out15⟩ => spec_l2Row_iter3 F row13 k n n9 score10 merged11 k12 out15))))
theorem spec_l2Row_lok3 (F : Nat) : LoopOK Try.prog (loopAt 3 (bodyOf Try.f72)) (spec_l2Row_ls3 F) := by
  refine loopOK_of mixed ttok deep (spec_l2Row_tabok F) (loopsOK_at (spec_l2Row_lsok0 F) 3) (fuel := 70) fun R vals mem np killed k x h => ?_
  simp only [spec_l2Row_ls3] at h
  split at h
  · rename_i n9 score10 merged11 k12 row13 q_t214 out15
    simp only [GT.run] at h
    have hc := (cond_noneL h).1
    replace h := (cond_noneL h).2
    have hg := (and_split hc).1
    replace hc := (and_split hc).2
    obtain rfl := beq_li hg
    refine ⟨F, (spec_l2Row_iter3 F row13 k F n9 score10 merged11 k12 out15).trans ((loopC_use (spec_l2Row_s3_nat F row13) hc _).trans h)⟩
  · simp only [GT.run] at h
    cases h
noncomputable def spec_l2Row_LS1 (F : Nat) : LT := (3, spec_l2Row_ls3 F) :: spec_l2Row_LS0 F
theorem spec_l2Row_lsok1 (F : Nat) : LoopsOK Try.prog (spec_l2Row_LS1 F) (bodyOf Try.f72) := loopsOK_cons spec_l2Row_keys (spec_l2Row_lok3 F) (spec_l2Row_lsok0 F)
theorem spec_l2Row_run (F : Nat) (row0 : List Int) : runS tt (spec_l2Row_tab F) (spec_l2Row_LS1 F) [] [] Try.f72 (bodyOf Try.f72) 70 [(.ints 4 row0)] [] = spec_l2Row_c _ F row0 (fun r => some ⟨(.tup [(.ints 4 r.1), (.int .i64 r.2)]), [], []⟩) := by kernel_rfl
def spec_l2Row_ent (F : Nat) : Ent := ⟨[], .quiet, fun args mem => match args, mem with
  | [(.ints 4 row0)], [] => some ((spec_l2Row_p F row0).isSome, ⟨(.tup [(.ints 4 ((spec_l2Row_p F row0).getD default).1), (.int .i64 ((spec_l2Row_p F row0).getD default).2)]), [], []⟩)
  | _, _ => none⟩
theorem spec_l2Row_fok : FunOK Try.prog 72 := funOK Try.func72 (by kernel_rfl) rfl
theorem spec_l2Row_meets (F : Nat) : Meets Try.prog 72 (spec_l2Row_ent F) := by
  refine meets_of_runS mixed ttok deep (spec_l2Row_tabok F) Try.func72 (body_some rfl) (spec_l2Row_lsok1 F) fun args mem hfit ret h => ?_
  clear hfit
  simp only [spec_l2Row_ent] at h
  split at h
  · rename_i row0
    simp only [Option.some.injEq, Prod.mk.injEq] at h
    obtain ⟨hc, rfl⟩ := h
    exact ⟨[], [], 70, _, (spec_l2Row_run F row0).trans ((spec_l2Row_cp _ F row0 _).trans (bind_use hc _)), rfl, rfl, rfl⟩
  · cases h
end Go.Proofs.Ytabfliifleonaae
