/-
Pure functions and what the code of them does, by program; without conditions.
-/
import Derived.Test.YtabfliifleonaahQhP0
import Derived.Test.YtabfliifleonaahQhA
namespace Go.Proofs.Ytabfliifleonaah
open Go Go.Lv Go.Lv.P Go.Proofs
set_option linter.unusedVariables false
set_option linter.unusedSimpArgs false
set_option maxRecDepth 100000
/-! loop.example/g01194/laws.vBig -/
noncomputable def laws_vBig_tab (F : Nat) : Tab := []
theorem laws_vBig_tabok (F : Nat) : TabOK Try.prog (laws_vBig_tab F) := tab_nil
noncomputable def laws_vBig_LS0 (F : Nat) : LT := []
theorem laws_vBig_lsok0 (F : Nat) : LoopsOK Try.prog (laws_vBig_LS0 F) (bodyOf Try.f4) := loopsOK_nil
theorem laws_vBig_run (F : Nat) (code0 : List Int) : runS tt (laws_vBig_tab F) (laws_vBig_LS0 F) [] [] Try.f4 (bodyOf Try.f4) 70 [(.ri .u8 code0)] [] = laws_vBig_c _ code0 (fun r => some ⟨(.bool r), [], []⟩) := by kernel_rfl
def laws_vBig_ent (F : Nat) : Ent := ⟨[], .quiet, fun args mem => match args, mem with
  | [(.ri .u8 code0)], [] => some (true, ⟨(.bool (laws_vBig_v code0)), [], []⟩)
  | _, _ => none⟩
theorem laws_vBig_fok : FunOK Try.prog 4 := funOK Try.func4 (by kernel_rfl) rfl
theorem laws_vBig_meets (F : Nat) : Meets Try.prog 4 (laws_vBig_ent F) := by
  refine meets_of_runS mixed ttok deep (laws_vBig_tabok F) Try.func4 (body_some rfl) (laws_vBig_lsok0 F) fun args mem hfit ret h => ?_
  clear hfit
  simp only [laws_vBig_ent] at h
  split at h
  · rename_i code0
    simp only [Option.some.injEq, Prod.mk.injEq] at h
    obtain ⟨hc, rfl⟩ := h
    exact ⟨[], [], 70, _, (laws_vBig_run F code0).trans (laws_vBig_cv _ code0 _), rfl, rfl, rfl⟩
  · cases h

/-! (*loop.example/g01194/spec.l1Cur).next -/
noncomputable def spec_l1Cur_next_tab (F : Nat) : Tab := []
theorem spec_l1Cur_next_tabok (F : Nat) : TabOK Try.prog (spec_l1Cur_next_tab F) := tab_nil
noncomputable def spec_l1Cur_next_LS0 (F : Nat) : LT := []
theorem spec_l1Cur_next_lsok0 (F : Nat) : LoopsOK Try.prog (spec_l1Cur_next_LS0 F) (bodyOf Try.f68) := loopsOK_nil
theorem spec_l1Cur_next_run (F : Nat) (c3 : List Int) (c4 : Int) (c5 : Int) : runS tt (spec_l1Cur_next_tab F) (spec_l1Cur_next_LS0 F) [] [] Try.f68 (bodyOf Try.f68) 70 [(.ptr 0 0 0 3)] [(.var 3 (.rv [(.ri .u8 c3), (.int .i64 c4), (.int .u64 c5)]))] = spec_l1Cur_next_c _ c3 c4 c5 (fun r => some ⟨(.int .i64 r.1), [(.var 3 (.rv [(.ri .u8 c3), (.int .i64 r.2.1), (.int .u64 r.2.2)]))], []⟩) := by kernel_rfl
def spec_l1Cur_next_ent (F : Nat) : Ent := ⟨[], .loud, fun args mem => match args, mem with
  | [(.ptr 0 0 0 3)], [(.var 3 (.rv [(.ri .u8 c3), (.int .i64 c4), (.int .u64 c5)]))] => some ((spec_l1Cur_next_p c3 c4 c5).isSome, ⟨(.int .i64 ((spec_l1Cur_next_p c3 c4 c5).getD default).1), [(.var 3 (.rv [(.ri .u8 c3), (.int .i64 ((spec_l1Cur_next_p c3 c4 c5).getD default).2.1), (.int .u64 ((spec_l1Cur_next_p c3 c4 c5).getD default).2.2)]))], []⟩)
  | _, _ => none⟩
theorem spec_l1Cur_next_fok : FunOK Try.prog 68 := funOK Try.func68 (by kernel_rfl) rfl
theorem spec_l1Cur_next_meets (F : Nat) : Meets Try.prog 68 (spec_l1Cur_next_ent F) := by
  refine meets_of_runS mixed ttok deep (spec_l1Cur_next_tabok F) Try.func68 (body_some rfl) (spec_l1Cur_next_lsok0 F) fun args mem hfit ret h => ?_
  clear hfit
  simp only [spec_l1Cur_next_ent] at h
  split at h
  · rename_i c3 c4 c5
    simp only [Option.some.injEq, Prod.mk.injEq] at h
    obtain ⟨hc, rfl⟩ := h
    exact ⟨[], [], 70, _, (spec_l1Cur_next_run F c3 c4 c5).trans ((spec_l1Cur_next_cp _ c3 c4 c5 _).trans (bind_use hc _)), rfl, rfl, rfl⟩
  · cases h

/-! (*loop.example/g01194/spec.l1Cur).pick -/
noncomputable def spec_l1Cur_pick_tab (F : Nat) : Tab := [(68, (spec_l1Cur_next_ent F))]
theorem spec_l1Cur_pick_tabok (F : Nat) : TabOK Try.prog (spec_l1Cur_pick_tab F) := (tab_cons (spec_l1Cur_next_meets F) spec_l1Cur_next_fok tab_nil)
noncomputable def spec_l1Cur_pick_LS0 (F : Nat) : LT := []
theorem spec_l1Cur_pick_lsok0 (F : Nat) : LoopsOK Try.prog (spec_l1Cur_pick_LS0 F) (bodyOf Try.f43) := loopsOK_nil
theorem spec_l1Cur_pick_run (F : Nat) (n3 : Int) (c4 : List Int) (c5 : Int) (c6 : Int) : runS tt (spec_l1Cur_pick_tab F) (spec_l1Cur_pick_LS0 F) [] [] Try.f43 (bodyOf Try.f43) 70 [(.ptr 0 0 0 3), (.int .i64 n3)] [(.var 3 (.rv [(.ri .u8 c4), (.int .i64 c5), (.int .u64 c6)]))] = spec_l1Cur_pick_c _ n3 c4 c5 c6 (fun r => some ⟨(.int .i64 r.1), [(.var 3 (.rv [(.ri .u8 c4), (.int .i64 r.2.1), (.int .u64 r.2.2)]))], []⟩) := by kernel_rfl
def spec_l1Cur_pick_ent (F : Nat) : Ent := ⟨[], .loud, fun args mem => match args, mem with
  | [(.ptr 0 0 0 3), (.int .i64 n3)], [(.var 3 (.rv [(.ri .u8 c4), (.int .i64 c5), (.int .u64 c6)]))] => some ((spec_l1Cur_pick_p n3 c4 c5 c6).isSome, ⟨(.int .i64 ((spec_l1Cur_pick_p n3 c4 c5 c6).getD default).1), [(.var 3 (.rv [(.ri .u8 c4), (.int .i64 ((spec_l1Cur_pick_p n3 c4 c5 c6).getD default).2.1), (.int .u64 ((spec_l1Cur_pick_p n3 c4 c5 c6).getD default).2.2)]))], []⟩)
  | _, _ => none⟩
theorem spec_l1Cur_pick_fok : FunOK Try.prog 43 := funOK Try.func43 (by kernel_rfl) rfl
theorem spec_l1Cur_pick_meets (F : Nat) : Meets Try.prog 43 (spec_l1Cur_pick_ent F) := by
  refine meets_of_runS mixed ttok deep (spec_l1Cur_pick_tabok F) Try.func43 (body_some rfl) (spec_l1Cur_pick_lsok0 F) fun args mem hfit ret h => ?_
  clear hfit
  simp only [spec_l1Cur_pick_ent] at h
  split at h
  · rename_i n3 c4 c5 c6
    simp only [Option.some.injEq, Prod.mk.injEq] at h
    obtain ⟨hc, rfl⟩ := h
    exact ⟨[], [], 70, _, (spec_l1Cur_pick_run F n3 c4 c5 c6).trans ((spec_l1Cur_pick_cp _ n3 c4 c5 c6 _).trans (bind_use hc _)), rfl, rfl, rfl⟩
  · cases h

/-! (*loop.example/g01194/spec.l1Cur).among -/
noncomputable def spec_l1Cur_among_tab (F : Nat) : Tab := [(43, (spec_l1Cur_pick_ent F))]
theorem spec_l1Cur_among_tabok (F : Nat) : TabOK Try.prog (spec_l1Cur_among_tab F) := (tab_cons (spec_l1Cur_pick_meets F) spec_l1Cur_pick_fok tab_nil)
noncomputable def spec_l1Cur_among_LS0 (F : Nat) : LT := []
theorem spec_l1Cur_among_lsok0 (F : Nat) : LoopsOK Try.prog (spec_l1Cur_among_LS0 F) (bodyOf Try.f20) := loopsOK_nil
theorem spec_l1Cur_among_run (F : Nat) (list3 : List Int) (c4 : List Int) (c5 : Int) (c6 : Int) : runS tt (spec_l1Cur_among_tab F) (spec_l1Cur_among_LS0 F) [] [] Try.f20 (bodyOf Try.f20) 70 [(.ptr 0 0 0 3), (.ri .i64 list3)] [(.var 3 (.rv [(.ri .u8 c4), (.int .i64 c5), (.int .u64 c6)]))] = spec_l1Cur_among_c _ list3 c4 c5 c6 (fun r => some ⟨(.int .i64 r.1), [(.var 3 (.rv [(.ri .u8 c4), (.int .i64 r.2.1), (.int .u64 r.2.2)]))], []⟩) := by kernel_rfl
def spec_l1Cur_among_ent (F : Nat) : Ent := ⟨[], .loud, fun args mem => match args, mem with
  | [(.ptr 0 0 0 3), (.ri .i64 list3)], [(.var 3 (.rv [(.ri .u8 c4), (.int .i64 c5), (.int .u64 c6)]))] => some ((spec_l1Cur_among_p list3 c4 c5 c6).isSome, ⟨(.int .i64 ((spec_l1Cur_among_p list3 c4 c5 c6).getD default).1), [(.var 3 (.rv [(.ri .u8 c4), (.int .i64 ((spec_l1Cur_among_p list3 c4 c5 c6).getD default).2.1), (.int .u64 ((spec_l1Cur_among_p list3 c4 c5 c6).getD default).2.2)]))], []⟩)
  | _, _ => none⟩
theorem spec_l1Cur_among_fok : FunOK Try.prog 20 := funOK Try.func20 (by kernel_rfl) rfl
theorem spec_l1Cur_among_meets (F : Nat) : Meets Try.prog 20 (spec_l1Cur_among_ent F) := by
  refine meets_of_runS mixed ttok deep (spec_l1Cur_among_tabok F) Try.func20 (body_some rfl) (spec_l1Cur_among_lsok0 F) fun args mem hfit ret h => ?_
  clear hfit
  simp only [spec_l1Cur_among_ent] at h
  split at h
  · rename_i list3 c4 c5 c6
    simp only [Option.some.injEq, Prod.mk.injEq] at h
    obtain ⟨hc, rfl⟩ := h
    exact ⟨[], [], 70, _, (spec_l1Cur_among_run F list3 c4 c5 c6).trans ((spec_l1Cur_among_cp _ list3 c4 c5 c6 _).trans (bind_use hc _)), rfl, rfl, rfl⟩
  · cases h

/-! (*loop.example/g01194/spec.l1Cur).one -/
noncomputable def spec_l1Cur_one_tab (F : Nat) : Tab := [(43, (spec_l1Cur_pick_ent F))]
theorem spec_l1Cur_one_tabok (F : Nat) : TabOK Try.prog (spec_l1Cur_one_tab F) := (tab_cons (spec_l1Cur_pick_meets F) spec_l1Cur_pick_fok tab_nil)
noncomputable def spec_l1Cur_one_LS0 (F : Nat) : LT := []
theorem spec_l1Cur_one_lsok0 (F : Nat) : LoopsOK Try.prog (spec_l1Cur_one_LS0 F) (bodyOf Try.f44) := loopsOK_nil
theorem spec_l1Cur_one_run (F : Nat) (n3 : Int) (c4 : List Int) (c5 : Int) (c6 : Int) : runS tt (spec_l1Cur_one_tab F) (spec_l1Cur_one_LS0 F) [] [] Try.f44 (bodyOf Try.f44) 70 [(.ptr 0 0 0 3), (.int .i64 n3)] [(.var 3 (.rv [(.ri .u8 c4), (.int .i64 c5), (.int .u64 c6)]))] = spec_l1Cur_one_c _ n3 c4 c5 c6 (fun r => some ⟨(.bool r.1), [(.var 3 (.rv [(.ri .u8 c4), (.int .i64 r.2.1), (.int .u64 r.2.2)]))], []⟩) := by kernel_rfl
def spec_l1Cur_one_ent (F : Nat) : Ent := ⟨[], .loud, fun args mem => match args, mem with
  | [(.ptr 0 0 0 3), (.int .i64 n3)], [(.var 3 (.rv [(.ri .u8 c4), (.int .i64 c5), (.int .u64 c6)]))] => some ((spec_l1Cur_one_p n3 c4 c5 c6).isSome, ⟨(.bool ((spec_l1Cur_one_p n3 c4 c5 c6).getD default).1), [(.var 3 (.rv [(.ri .u8 c4), (.int .i64 ((spec_l1Cur_one_p n3 c4 c5 c6).getD default).2.1), (.int .u64 ((spec_l1Cur_one_p n3 c4 c5 c6).getD default).2.2)]))], []⟩)
  | _, _ => none⟩
theorem spec_l1Cur_one_fok : FunOK Try.prog 44 := funOK Try.func44 (by kernel_rfl) rfl
theorem spec_l1Cur_one_meets (F : Nat) : Meets Try.prog 44 (spec_l1Cur_one_ent F) := by
  refine meets_of_runS mixed ttok deep (spec_l1Cur_one_tabok F) Try.func44 (body_some rfl) (spec_l1Cur_one_lsok0 F) fun args mem hfit ret h => ?_
  clear hfit
  simp only [spec_l1Cur_one_ent] at h
  split at h
  · rename_i n3 c4 c5 c6
    simp only [Option.some.injEq, Prod.mk.injEq] at h
    obtain ⟨hc, rfl⟩ := h
    exact ⟨[], [], 70, _, (spec_l1Cur_one_run F n3 c4 c5 c6).trans ((spec_l1Cur_one_cp _ n3 c4 c5 c6 _).trans (bind_use hc _)), rfl, rfl, rfl⟩
  · cases h

/-! (*loop.example/g01194/spec.l1Cur).side -/
noncomputable def spec_l1Cur_side_tab (F : Nat) : Tab := [(44, (spec_l1Cur_one_ent F)), (20, (spec_l1Cur_among_ent F)), (43, (spec_l1Cur_pick_ent F))]
theorem spec_l1Cur_side_tabok (F : Nat) : TabOK Try.prog (spec_l1Cur_side_tab F) := (tab_cons (spec_l1Cur_one_meets F) spec_l1Cur_one_fok (tab_cons (spec_l1Cur_among_meets F) spec_l1Cur_among_fok (tab_cons (spec_l1Cur_pick_meets F) spec_l1Cur_pick_fok tab_nil)))
noncomputable def spec_l1Cur_side_LS0 (F : Nat) : LT := []
theorem spec_l1Cur_side_lsok0 (F : Nat) : LoopsOK Try.prog (spec_l1Cur_side_LS0 F) (bodyOf Try.f21) := loopsOK_nil
theorem spec_l1Cur_side_run (F : Nat) (c3 : List Int) (c4 : Int) (c5 : Int) : runS tt (spec_l1Cur_side_tab F) (spec_l1Cur_side_LS0 F) [] [] Try.f21 (bodyOf Try.f21) 70 [(.ptr 0 0 0 3)] [(.var 3 (.rv [(.ri .u8 c3), (.int .i64 c4), (.int .u64 c5)]))] = spec_l1Cur_side_c _ c3 c4 c5 (fun r => some ⟨(.int .i64 r.1), [(.var 3 (.rv [(.ri .u8 c3), (.int .i64 r.2.1), (.int .u64 r.2.2)]))], []⟩) := by kernel_rfl
def spec_l1Cur_side_ent (F : Nat) : Ent := ⟨[], .loud, fun args mem => match args, mem with
  | [(.ptr 0 0 0 3)], [(.var 3 (.rv [(.ri .u8 c3), (.int .i64 c4), (.int .u64 c5)]))] => some ((spec_l1Cur_side_p c3 c4 c5).isSome, ⟨(.int .i64 ((spec_l1Cur_side_p c3 c4 c5).getD default).1), [(.var 3 (.rv [(.ri .u8 c3), (.int .i64 ((spec_l1Cur_side_p c3 c4 c5).getD default).2.1), (.int .u64 ((spec_l1Cur_side_p c3 c4 c5).getD default).2.2)]))], []⟩)
  | _, _ => none⟩
theorem spec_l1Cur_side_fok : FunOK Try.prog 21 := funOK Try.func21 (by kernel_rfl) rfl
theorem spec_l1Cur_side_meets (F : Nat) : Meets Try.prog 21 (spec_l1Cur_side_ent F) := by
  refine meets_of_runS mixed ttok deep (spec_l1Cur_side_tabok F) Try.func21 (body_some rfl) (spec_l1Cur_side_lsok0 F) fun args mem hfit ret h => ?_
  clear hfit
  simp only [spec_l1Cur_side_ent] at h
  split at h
  · rename_i c3 c4 c5
    simp only [Option.some.injEq, Prod.mk.injEq] at h
    obtain ⟨hc, rfl⟩ := h
    exact ⟨[], [], 70, _, (spec_l1Cur_side_run F c3 c4 c5).trans ((spec_l1Cur_side_cp _ c3 c4 c5 _).trans (bind_use hc _)), rfl, rfl, rfl⟩
  · cases h

/-! (*loop.example/g01194/spec.l1Cur).tile -/
noncomputable def spec_l1Cur_tile_tab (F : Nat) : Tab := [(20, (spec_l1Cur_among_ent F))]
theorem spec_l1Cur_tile_tabok (F : Nat) : TabOK Try.prog (spec_l1Cur_tile_tab F) := (tab_cons (spec_l1Cur_among_meets F) spec_l1Cur_among_fok tab_nil)
noncomputable def spec_l1Cur_tile_LS0 (F : Nat) : LT := []
theorem spec_l1Cur_tile_lsok0 (F : Nat) : LoopsOK Try.prog (spec_l1Cur_tile_LS0 F) (bodyOf Try.f45) := loopsOK_nil
theorem spec_l1Cur_tile_run (F : Nat) (c3 : List Int) (c4 : Int) (c5 : Int) : runS tt (spec_l1Cur_tile_tab F) (spec_l1Cur_tile_LS0 F) [] [] Try.f45 (bodyOf Try.f45) 70 [(.ptr 0 0 0 3)] [(.var 3 (.rv [(.ri .u8 c3), (.int .i64 c4), (.int .u64 c5)]))] = spec_l1Cur_tile_c _ c3 c4 c5 (fun r => some ⟨(.int .i64 r.1), [(.var 3 (.rv [(.ri .u8 c3), (.int .i64 r.2.1), (.int .u64 r.2.2)]))], []⟩) := by kernel_rfl
def spec_l1Cur_tile_ent (F : Nat) : Ent := ⟨[], .loud, fun args mem => match args, mem with
  | [(.ptr 0 0 0 3)], [(.var 3 (.rv [(.ri .u8 c3), (.int .i64 c4), (.int .u64 c5)]))] => some ((spec_l1Cur_tile_p c3 c4 c5).isSome, ⟨(.int .i64 ((spec_l1Cur_tile_p c3 c4 c5).getD default).1), [(.var 3 (.rv [(.ri .u8 c3), (.int .i64 ((spec_l1Cur_tile_p c3 c4 c5).getD default).2.1), (.int .u64 ((spec_l1Cur_tile_p c3 c4 c5).getD default).2.2)]))], []⟩)
  | _, _ => none⟩
theorem spec_l1Cur_tile_fok : FunOK Try.prog 45 := funOK Try.func45 (by kernel_rfl) rfl
theorem spec_l1Cur_tile_meets (F : Nat) : Meets Try.prog 45 (spec_l1Cur_tile_ent F) := by
  refine meets_of_runS mixed ttok deep (spec_l1Cur_tile_tabok F) Try.func45 (body_some rfl) (spec_l1Cur_tile_lsok0 F) fun args mem hfit ret h => ?_
  clear hfit
  simp only [spec_l1Cur_tile_ent] at h
  split at h
  · rename_i c3 c4 c5
    simp only [Option.some.injEq, Prod.mk.injEq] at h
    obtain ⟨hc, rfl⟩ := h
    exact ⟨[], [], 70, _, (spec_l1Cur_tile_run F c3 c4 c5).trans ((spec_l1Cur_tile_cp _ c3 c4 c5 _).trans (bind_use hc _)), rfl, rfl, rfl⟩
  · cases h

/-! (*loop.example/g01194/spec.l1Cur).board -/
noncomputable def spec_l1Cur_board_tab (F : Nat) : Tab := [(44, (spec_l1Cur_one_ent F)), (45, (spec_l1Cur_tile_ent F)), (43, (spec_l1Cur_pick_ent F)), (20, (spec_l1Cur_among_ent F))]
theorem spec_l1Cur_board_tabok (F : Nat) : TabOK Try.prog (spec_l1Cur_board_tab F) := (tab_cons (spec_l1Cur_one_meets F) spec_l1Cur_one_fok (tab_cons (spec_l1Cur_tile_meets F) spec_l1Cur_tile_fok (tab_cons (spec_l1Cur_pick_meets F) spec_l1Cur_pick_fok (tab_cons (spec_l1Cur_among_meets F) spec_l1Cur_among_fok tab_nil))))
noncomputable def spec_l1Cur_board_LS0 (F : Nat) : LT := []
theorem spec_l1Cur_board_lsok0 (F : Nat) : LoopsOK Try.prog (spec_l1Cur_board_LS0 F) (bodyOf Try.f22) := loopsOK_nil
theorem spec_l1Cur_board_keys : keysOK (bodyOf Try.f22) = true := by kernel_rfl
def spec_l1Cur_board_st6 (few9 : Bool) (full10 : Bool) (r11 : Int) (c13 : List Int) (k12 : Int) (c14 : Int) (c15 : Int) (b17 : List Int) : St := ⟨expand 110 0 [0, 2, 3, 4, 5, 6, 7] [(.ptr 0 0 0 3), (.ptr 1 0 0 16), (.ptr 2 0 0 16), (.bool few9), (.bool full10), (.int .i64 r11), (.int .i64 k12)], [(.var 3 (.rv [(.ri .u8 c13), (.int .i64 c14), (.int .u64 c15)])), (.var 16 (.ri .i64 [(0 : Int), (0 : Int), (0 : Int), (0 : Int), (0 : Int), (0 : Int), (0 : Int), (0 : Int), (0 : Int), (0 : Int), (0 : Int), (0 : Int), (0 : Int), (0 : Int), (0 : Int), (0 : Int)])), (.var 16 (.ri .i64 b17))], 1, []⟩
def spec_l1Cur_board_o6 (few9 : Bool) (full10 : Bool) (r11 : Int) (c13 : List Int) (x : Int × Int × List Int) : GT := (.out (.exit 2 ⟨expand 110 0 [0, 2, 3, 4, 5, 6] [(.ptr 0 0 0 3), (.ptr 1 0 0 16), (.ptr 2 0 0 16), (.bool few9), (.bool full10), (.int .i64 r11)], [(.var 3 (.rv [(.ri .u8 c13), (.int .i64 x.1), (.int .u64 x.2.1)])), (.var 16 (.ri .i64 [(0 : Int), (0 : Int), (0 : Int), (0 : Int), (0 : Int), (0 : Int), (0 : Int), (0 : Int), (0 : Int), (0 : Int), (0 : Int), (0 : Int), (0 : Int), (0 : Int), (0 : Int), (0 : Int)])), (.var 16 (.ri .i64 x.2.2))], 1, []⟩))
def spec_l1Cur_board_ls6 (F : Nat) : LoopS := ⟨110, [0, 2, 3, 4, 5, 6, 7], [], [0, 2, 3, 4, 5, 6], [], [2], [], [], fun vals mem np killed => match vals, mem, np, killed with
  | [(.ptr 0 0 0 3), (.ptr 1 0 0 16), (.ptr 2 0 0 16), (.bool few9), (.bool full10), (.int .i64 r11), (.int .i64 k12)], [(.var 3 (.rv [(.ri .u8 c13), (.int .i64 c14), (.int .u64 c15)])), (.var 16 (.ri .i64 q_t216)), (.var 16 (.ri .i64 b17))], 1, [] => .br ((q_t216 == ([(0 : Int), (0 : Int), (0 : Int), (0 : Int), (0 : Int), (0 : Int), (0 : Int), (0 : Int), (0 : Int), (0 : Int), (0 : Int), (0 : Int), (0 : Int), (0 : Int), (0 : Int), (0 : Int)] : List Int)) && (spec_l1Cur_board_l6 F few9 full10 r11 c13 k12 c14 c15 b17).isSome) (spec_l1Cur_board_o6 few9 full10 r11 c13 ((spec_l1Cur_board_l6 F few9 full10 r11 c13 k12 c14 c15 b17).getD default)) .fail
  | _, _, _, _ => .fail⟩
theorem spec_l1Cur_board_step6 (F : Nat) (few9 : Bool) (full10 : Bool) (r11 : Int) (c13 : List Int) (k12 : Int) (c14 : Int) (c15 : Int) (b17 : List Int) {R : Type} (k : Out → Option R) : stepS tt (spec_l1Cur_board_tab F) (spec_l1Cur_board_LS0 F) 70 (spec_l1Cur_board_ls6 F) (loopAt 6 (bodyOf Try.f22)) (spec_l1Cur_board_st6 few9 full10 r11 c13 k12 c14 c15 b17) k = spec_l1Cur_board_s6 F few9 full10 r11 c13 R (k12, c14, c15, b17) (fun s => k (.norm (spec_l1Cur_board_st6 few9 full10 r11 c13 s.1 s.2.1 s.2.2.1 s.2.2.2))) (fun x => (spec_l1Cur_board_o6 few9 full10 r11 c13 x).run k) := by kernel_rfl
theorem spec_l1Cur_board_iter6 (F : Nat) (few9 : Bool) (full10 : Bool) (r11 : Int) (c13 : List Int) {R : Type} (k : Out → Option R) : ∀ (n : Nat) (k12 : Int) (c14 : Int) (c15 : Int) (b17 : List Int), iterS tt (spec_l1Cur_board_tab F) (spec_l1Cur_board_LS0 F) 70 (spec_l1Cur_board_ls6 F) (loopAt 6 (bodyOf Try.f22)) n (spec_l1Cur_board_st6 few9 full10 r11 c13 k12 c14 c15 b17) k = loopC (spec_l1Cur_board_s6 F few9 full10 r11 c13) n (k12, c14, c15, b17) (fun x => (spec_l1Cur_board_o6 few9 full10 r11 c13 x).run k)
  | 0, k12, c14, c15, b17 => rfl
  | n + 1, k12, c14, c15, b17 => (iterS_succ tt (spec_l1Cur_board_tab F) (spec_l1Cur_board_LS0 F) 70 (spec_l1Cur_board_ls6 F) (loopAt 6 (bodyOf Try.f22)) n (spec_l1Cur_board_st6 few9 full10 r11 c13 k12 c14 c15 b17) k).trans ((spec_l1Cur_board_step6 F few9 full10 r11 c13 k12 c14 c15 b17 (nextK (iterS tt (spec_l1Cur_board_tab F) (spec_l1Cur_board_LS0 F) 70 (spec_l1Cur_board_ls6 F) (loopAt 6 (bodyOf Try.f22)) n) k)).trans (congrArg (fun kn => spec_l1Cur_board_s6 F few9 full10 r11 c13 R (k12, c14, c15, b17) kn _) (funext (fun ⟨k12, c14, c15, b17⟩ => spec_l1Cur_board_iter6 F few9 full10 r11 c13 k n k12 c14 c15 b17))))
theorem spec_l1Cur_board_lok6 (F : Nat) : LoopOK Try.prog (loopAt 6 (bodyOf Try.f22)) (spec_l1Cur_board_ls6 F) := by
  refine loopOK_of mixed ttok deep (spec_l1Cur_board_tabok F) (loopsOK_at (spec_l1Cur_board_lsok0 F) 6) (fuel := 70) fun R vals mem np killed k x h => ?_
  simp only [spec_l1Cur_board_ls6] at h
  split at h
  · rename_i few9 full10 r11 k12 c13 c14 c15 q_t216 b17
    simp only [GT.run] at h
    have hc := (cond_noneL h).1
    replace h := (cond_noneL h).2
    have hg := (and_split hc).1
    replace hc := (and_split hc).2
    obtain rfl := beq_li hg
    refine ⟨F, (spec_l1Cur_board_iter6 F few9 full10 r11 c13 k F k12 c14 c15 b17).trans ((loopC_use (spec_l1Cur_board_s6_nat F few9 full10 r11 c13) hc _).trans h)⟩
  · simp only [GT.run] at h
    cases h
noncomputable def spec_l1Cur_board_LS1 (F : Nat) : LT := (6, spec_l1Cur_board_ls6 F) :: spec_l1Cur_board_LS0 F
theorem spec_l1Cur_board_lsok1 (F : Nat) : LoopsOK Try.prog (spec_l1Cur_board_LS1 F) (bodyOf Try.f22) := loopsOK_cons spec_l1Cur_board_keys (spec_l1Cur_board_lok6 F) (spec_l1Cur_board_lsok0 F)
def spec_l1Cur_board_st3 (few9 : Bool) (full10 : Bool) (c12 : List Int) (r11 : Int) (c13 : Int) (c14 : Int) (b16 : List Int) : St := ⟨expand 110 0 [0, 2, 3, 4, 5, 6] [(.ptr 0 0 0 3), (.ptr 1 0 0 16), (.ptr 2 0 0 16), (.bool few9), (.bool full10), (.int .i64 r11)], [(.var 3 (.rv [(.ri .u8 c12), (.int .i64 c13), (.int .u64 c14)])), (.var 16 (.ri .i64 [(0 : Int), (0 : Int), (0 : Int), (0 : Int), (0 : Int), (0 : Int), (0 : Int), (0 : Int), (0 : Int), (0 : Int), (0 : Int), (0 : Int), (0 : Int), (0 : Int), (0 : Int), (0 : Int)])), (.var 16 (.ri .i64 b16))], 1, []⟩
def spec_l1Cur_board_o3 (few9 : Bool) (full10 : Bool) (c12 : List Int) (x : Int × Int × List Int) : GT := (.out (.exit 0 ⟨expand 110 0 [0, 2, 3] [(.ptr 0 0 0 3), (.ptr 1 0 0 16), (.ptr 2 0 0 16)], [(.var 3 (.rv [(.ri .u8 c12), (.int .i64 x.1), (.int .u64 x.2.1)])), (.var 16 (.ri .i64 [(0 : Int), (0 : Int), (0 : Int), (0 : Int), (0 : Int), (0 : Int), (0 : Int), (0 : Int), (0 : Int), (0 : Int), (0 : Int), (0 : Int), (0 : Int), (0 : Int), (0 : Int), (0 : Int)])), (.var 16 (.ri .i64 x.2.2))], 1, []⟩))
def spec_l1Cur_board_ls3 (F : Nat) : LoopS := ⟨110, [0, 2, 3, 4, 5, 6], [], [0, 2, 3], [], [2], [], [], fun vals mem np killed => match vals, mem, np, killed with
  | [(.ptr 0 0 0 3), (.ptr 1 0 0 16), (.ptr 2 0 0 16), (.bool few9), (.bool full10), (.int .i64 r11)], [(.var 3 (.rv [(.ri .u8 c12), (.int .i64 c13), (.int .u64 c14)])), (.var 16 (.ri .i64 q_t215)), (.var 16 (.ri .i64 b16))], 1, [] => .br ((q_t215 == ([(0 : Int), (0 : Int), (0 : Int), (0 : Int), (0 : Int), (0 : Int), (0 : Int), (0 : Int), (0 : Int), (0 : Int), (0 : Int), (0 : Int), (0 : Int), (0 : Int), (0 : Int), (0 : Int)] : List Int)) && (spec_l1Cur_board_l3 F few9 full10 c12 r11 c13 c14 b16).isSome) (spec_l1Cur_board_o3 few9 full10 c12 ((spec_l1Cur_board_l3 F few9 full10 c12 r11 c13 c14 b16).getD default)) .fail
  | _, _, _, _ => .fail⟩
theorem spec_l1Cur_board_step3 (F : Nat) (few9 : Bool) (full10 : Bool) (c12 : List Int) (r11 : Int) (c13 : Int) (c14 : Int) (b16 : List Int) {R : Type} (k : Out → Option R) : stepS tt (spec_l1Cur_board_tab F) (spec_l1Cur_board_LS1 F) 70 (spec_l1Cur_board_ls3 F) (loopAt 3 (bodyOf Try.f22)) (spec_l1Cur_board_st3 few9 full10 c12 r11 c13 c14 b16) k = spec_l1Cur_board_s3 F few9 full10 c12 R (r11, c13, c14, b16) (fun s => k (.norm (spec_l1Cur_board_st3 few9 full10 c12 s.1 s.2.1 s.2.2.1 s.2.2.2))) (fun x => (spec_l1Cur_board_o3 few9 full10 c12 x).run k) := by kernel_rfl
theorem spec_l1Cur_board_iter3 (F : Nat) (few9 : Bool) (full10 : Bool) (c12 : List Int) {R : Type} (k : Out → Option R) : ∀ (n : Nat) (r11 : Int) (c13 : Int) (c14 : Int) (b16 : List Int), iterS tt (spec_l1Cur_board_tab F) (spec_l1Cur_board_LS1 F) 70 (spec_l1Cur_board_ls3 F) (loopAt 3 (bodyOf Try.f22)) n (spec_l1Cur_board_st3 few9 full10 c12 r11 c13 c14 b16) k = loopC (spec_l1Cur_board_s3 F few9 full10 c12) n (r11, c13, c14, b16) (fun x => (spec_l1Cur_board_o3 few9 full10 c12 x).run k)
  | 0, r11, c13, c14, b16 => rfl
  | n + 1, r11, c13, c14, b16 => (iterS_succ tt (spec_l1Cur_board_tab F) (spec_l1Cur_board_LS1 F) 70 (spec_l1Cur_board_ls3 F) (loopAt 3 (bodyOf Try.f22)) n (spec_l1Cur_board_st3 few9 full10 c12 r11 c13 c14 b16) k).trans ((spec_l1Cur_board_step3 F few9 full10 c12 r11 c13 c14 b16 (nextK (iterS tt (spec_l1Cur_board_tab F) (spec_l1Cur_board_LS1 F) 70 (spec_l1Cur_board_ls3 F) (loopAt 3 (bodyOf Try.f22)) n) k)).trans (congrArg (fun kn => spec_l1Cur_board_s3 F few9 full10 c12 R (r11, c13, c14, b16) kn _) (funext (fun ⟨r11, c13, c14, b16⟩ => spec_l1Cur_board_iter3 F few9 full10 c12 k n r11 c13 c14 b16))))
theorem spec_l1Cur_board_lok3 (F : Nat) : LoopOK Try.prog (loopAt 3 (bodyOf Try.f22)) (spec_l1Cur_board_ls3 F) := by
  refine loopOK_of mixed ttok deep (spec_l1Cur_board_tabok F) (loopsOK_at (spec_l1Cur_board_lsok1 F) 3) (fuel := 70) fun R vals mem np killed k x h => ?_
  simp only [spec_l1Cur_board_ls3] at h
  split at h
  · rename_i few9 full10 r11 c12 c13 c14 q_t215 b16
    simp only [GT.run] at h
    have hc := (cond_noneL h).1
    replace h := (cond_noneL h).2
    have hg := (and_split hc).1
    replace hc := (and_split hc).2
    obtain rfl := beq_li hg
    refine ⟨F, (spec_l1Cur_board_iter3 F few9 full10 c12 k F r11 c13 c14 b16).trans ((loopC_use (spec_l1Cur_board_s3_nat F few9 full10 c12) hc _).trans h)⟩
  · simp only [GT.run] at h
    cases h
noncomputable def spec_l1Cur_board_LS2 (F : Nat) : LT := (3, spec_l1Cur_board_ls3 F) :: spec_l1Cur_board_LS1 F
theorem spec_l1Cur_board_lsok2 (F : Nat) : LoopsOK Try.prog (spec_l1Cur_board_LS2 F) (bodyOf Try.f22) := loopsOK_cons spec_l1Cur_board_keys (spec_l1Cur_board_lok3 F) (spec_l1Cur_board_lsok1 F)
def spec_l1Cur_board_st29 (r9 : Int) (c11 : List Int) (k10 : Int) (c12 : Int) (c13 : Int) (b15 : List Int) : St := ⟨expand 110 0 [0, 2, 3, 11, 12] [(.ptr 0 0 0 3), (.ptr 1 0 0 16), (.ptr 2 0 0 16), (.int .i64 r9), (.int .i64 k10)], [(.var 3 (.rv [(.ri .u8 c11), (.int .i64 c12), (.int .u64 c13)])), (.var 16 (.ri .i64 [(0 : Int), (0 : Int), (0 : Int), (0 : Int), (0 : Int), (0 : Int), (0 : Int), (0 : Int), (0 : Int), (0 : Int), (0 : Int), (0 : Int), (0 : Int), (0 : Int), (0 : Int), (0 : Int)])), (.var 16 (.ri .i64 b15))], 1, []⟩
def spec_l1Cur_board_o29 (r9 : Int) (c11 : List Int) (x : Int × Int × List Int) : GT := (.out (.exit 7 ⟨expand 110 0 [0, 2, 3, 11] [(.ptr 0 0 0 3), (.ptr 1 0 0 16), (.ptr 2 0 0 16), (.int .i64 r9)], [(.var 3 (.rv [(.ri .u8 c11), (.int .i64 x.1), (.int .u64 x.2.1)])), (.var 16 (.ri .i64 [(0 : Int), (0 : Int), (0 : Int), (0 : Int), (0 : Int), (0 : Int), (0 : Int), (0 : Int), (0 : Int), (0 : Int), (0 : Int), (0 : Int), (0 : Int), (0 : Int), (0 : Int), (0 : Int)])), (.var 16 (.ri .i64 x.2.2))], 1, []⟩))
def spec_l1Cur_board_ls29 (F : Nat) : LoopS := ⟨110, [0, 2, 3, 11, 12], [], [0, 2, 3, 11], [], [2], [], [], fun vals mem np killed => match vals, mem, np, killed with
  | [(.ptr 0 0 0 3), (.ptr 1 0 0 16), (.ptr 2 0 0 16), (.int .i64 r9), (.int .i64 k10)], [(.var 3 (.rv [(.ri .u8 c11), (.int .i64 c12), (.int .u64 c13)])), (.var 16 (.ri .i64 q_t214)), (.var 16 (.ri .i64 b15))], 1, [] => .br ((q_t214 == ([(0 : Int), (0 : Int), (0 : Int), (0 : Int), (0 : Int), (0 : Int), (0 : Int), (0 : Int), (0 : Int), (0 : Int), (0 : Int), (0 : Int), (0 : Int), (0 : Int), (0 : Int), (0 : Int)] : List Int)) && (spec_l1Cur_board_l29 F r9 c11 k10 c12 c13 b15).isSome) (spec_l1Cur_board_o29 r9 c11 ((spec_l1Cur_board_l29 F r9 c11 k10 c12 c13 b15).getD default)) .fail
  | _, _, _, _ => .fail⟩
theorem spec_l1Cur_board_step29 (F : Nat) (r9 : Int) (c11 : List Int) (k10 : Int) (c12 : Int) (c13 : Int) (b15 : List Int) {R : Type} (k : Out → Option R) : stepS tt (spec_l1Cur_board_tab F) (spec_l1Cur_board_LS2 F) 70 (spec_l1Cur_board_ls29 F) (loopAt 29 (bodyOf Try.f22)) (spec_l1Cur_board_st29 r9 c11 k10 c12 c13 b15) k = spec_l1Cur_board_s29 F r9 c11 R (k10, c12, c13, b15) (fun s => k (.norm (spec_l1Cur_board_st29 r9 c11 s.1 s.2.1 s.2.2.1 s.2.2.2))) (fun x => (spec_l1Cur_board_o29 r9 c11 x).run k) := by kernel_rfl
theorem spec_l1Cur_board_iter29 (F : Nat) (r9 : Int) (c11 : List Int) {R : Type} (k : Out → Option R) : ∀ (n : Nat) (k10 : Int) (c12 : Int) (c13 : Int) (b15 : List Int), iterS tt (spec_l1Cur_board_tab F) (spec_l1Cur_board_LS2 F) 70 (spec_l1Cur_board_ls29 F) (loopAt 29 (bodyOf Try.f22)) n (spec_l1Cur_board_st29 r9 c11 k10 c12 c13 b15) k = loopC (spec_l1Cur_board_s29 F r9 c11) n (k10, c12, c13, b15) (fun x => (spec_l1Cur_board_o29 r9 c11 x).run k)
  | 0, k10, c12, c13, b15 => rfl
  | n + 1, k10, c12, c13, b15 => (iterS_succ tt (spec_l1Cur_board_tab F) (spec_l1Cur_board_LS2 F) 70 (spec_l1Cur_board_ls29 F) (loopAt 29 (bodyOf Try.f22)) n (spec_l1Cur_board_st29 r9 c11 k10 c12 c13 b15) k).trans ((spec_l1Cur_board_step29 F r9 c11 k10 c12 c13 b15 (nextK (iterS tt (spec_l1Cur_board_tab F) (spec_l1Cur_board_LS2 F) 70 (spec_l1Cur_board_ls29 F) (loopAt 29 (bodyOf Try.f22)) n) k)).trans (congrArg (fun kn => spec_l1Cur_board_s29 F r9 c11 R (k10, c12, c13, b15) kn _) (funext (fun ⟨k10, c12, c13, b15⟩ => spec_l1Cur_board_iter29 F r9 c11 k n k10 c12 c13 b15))))
theorem spec_l1Cur_board_lok29 (F : Nat) : LoopOK Try.prog (loopAt 29 (bodyOf Try.f22)) (spec_l1Cur_board_ls29 F) := by
  refine loopOK_of mixed ttok deep (spec_l1Cur_board_tabok F) (loopsOK_at (spec_l1Cur_board_lsok2 F) 29) (fuel := 70) fun R vals mem np killed k x h => ?_
  simp only [spec_l1Cur_board_ls29] at h
  split at h
  · rename_i r9 k10 c11 c12 c13 q_t214 b15
    simp only [GT.run] at h
    have hc := (cond_noneL h).1
    replace h := (cond_noneL h).2
    have hg := (and_split hc).1
    replace hc := (and_split hc).2
    obtain rfl := beq_li hg
    refine ⟨F, (spec_l1Cur_board_iter29 F r9 c11 k F k10 c12 c13 b15).trans ((loopC_use (spec_l1Cur_board_s29_nat F r9 c11) hc _).trans h)⟩
  · simp only [GT.run] at h
    cases h
noncomputable def spec_l1Cur_board_LS3 (F : Nat) : LT := (29, spec_l1Cur_board_ls29 F) :: spec_l1Cur_board_LS2 F
theorem spec_l1Cur_board_lsok3 (F : Nat) : LoopsOK Try.prog (spec_l1Cur_board_LS3 F) (bodyOf Try.f22) := loopsOK_cons spec_l1Cur_board_keys (spec_l1Cur_board_lok29 F) (spec_l1Cur_board_lsok2 F)
def spec_l1Cur_board_st26 (c10 : List Int) (r9 : Int) (c11 : Int) (c12 : Int) (b14 : List Int) : St := ⟨expand 110 0 [0, 2, 3, 11] [(.ptr 0 0 0 3), (.ptr 1 0 0 16), (.ptr 2 0 0 16), (.int .i64 r9)], [(.var 3 (.rv [(.ri .u8 c10), (.int .i64 c11), (.int .u64 c12)])), (.var 16 (.ri .i64 [(0 : Int), (0 : Int), (0 : Int), (0 : Int), (0 : Int), (0 : Int), (0 : Int), (0 : Int), (0 : Int), (0 : Int), (0 : Int), (0 : Int), (0 : Int), (0 : Int), (0 : Int), (0 : Int)])), (.var 16 (.ri .i64 b14))], 1, []⟩
def spec_l1Cur_board_o26 (c10 : List Int) (x : Int × Int × List Int) : GT := (.out (.exit 5 ⟨expand 110 0 [2, 3] [(.ptr 1 0 0 16), (.ptr 2 0 0 16)], [(.var 3 (.rv [(.ri .u8 c10), (.int .i64 x.1), (.int .u64 x.2.1)])), (.var 16 (.ri .i64 [(0 : Int), (0 : Int), (0 : Int), (0 : Int), (0 : Int), (0 : Int), (0 : Int), (0 : Int), (0 : Int), (0 : Int), (0 : Int), (0 : Int), (0 : Int), (0 : Int), (0 : Int), (0 : Int)])), (.var 16 (.ri .i64 x.2.2))], 1, []⟩))
def spec_l1Cur_board_ls26 (F : Nat) : LoopS := ⟨110, [0, 2, 3, 11], [], [2, 3], [], [2], [], [], fun vals mem np killed => match vals, mem, np, killed with
  | [(.ptr 0 0 0 3), (.ptr 1 0 0 16), (.ptr 2 0 0 16), (.int .i64 r9)], [(.var 3 (.rv [(.ri .u8 c10), (.int .i64 c11), (.int .u64 c12)])), (.var 16 (.ri .i64 q_t213)), (.var 16 (.ri .i64 b14))], 1, [] => .br ((q_t213 == ([(0 : Int), (0 : Int), (0 : Int), (0 : Int), (0 : Int), (0 : Int), (0 : Int), (0 : Int), (0 : Int), (0 : Int), (0 : Int), (0 : Int), (0 : Int), (0 : Int), (0 : Int), (0 : Int)] : List Int)) && (spec_l1Cur_board_l26 F c10 r9 c11 c12 b14).isSome) (spec_l1Cur_board_o26 c10 ((spec_l1Cur_board_l26 F c10 r9 c11 c12 b14).getD default)) .fail
  | _, _, _, _ => .fail⟩
theorem spec_l1Cur_board_step26 (F : Nat) (c10 : List Int) (r9 : Int) (c11 : Int) (c12 : Int) (b14 : List Int) {R : Type} (k : Out → Option R) : stepS tt (spec_l1Cur_board_tab F) (spec_l1Cur_board_LS3 F) 70 (spec_l1Cur_board_ls26 F) (loopAt 26 (bodyOf Try.f22)) (spec_l1Cur_board_st26 c10 r9 c11 c12 b14) k = spec_l1Cur_board_s26 F c10 R (r9, c11, c12, b14) (fun s => k (.norm (spec_l1Cur_board_st26 c10 s.1 s.2.1 s.2.2.1 s.2.2.2))) (fun x => (spec_l1Cur_board_o26 c10 x).run k) := by kernel_rfl
theorem spec_l1Cur_board_iter26 (F : Nat) (c10 : List Int) {R : Type} (k : Out → Option R) : ∀ (n : Nat) (r9 : Int) (c11 : Int) (c12 : Int) (b14 : List Int), iterS tt (spec_l1Cur_board_tab F) (spec_l1Cur_board_LS3 F) 70 (spec_l1Cur_board_ls26 F) (loopAt 26 (bodyOf Try.f22)) n (spec_l1Cur_board_st26 c10 r9 c11 c12 b14) k = loopC (spec_l1Cur_board_s26 F c10) n (r9, c11, c12, b14) (fun x => (spec_l1Cur_board_o26 c10 x).run k)
  | 0, r9, c11, c12, b14 => rfl
  | n + 1, r9, c11, c12, b14 => (iterS_succ tt (spec_l1Cur_board_tab F) (spec_l1Cur_board_LS3 F) 70 (spec_l1Cur_board_ls26 F) (loopAt 26 (bodyOf Try.f22)) n (spec_l1Cur_board_st26 c10 r9 c11 c12 b14) k).trans ((spec_l1Cur_board_step26 F c10 r9 c11 c12 b14 (nextK (iterS tt (spec_l1Cur_board_tab F) (spec_l1Cur_board_LS3 F) 70 (spec_l1Cur_board_ls26 F) (loopAt 26 (bodyOf Try.f22)) n) k)).trans (congrArg (fun kn => spec_l1Cur_board_s26 F c10 R (r9, c11, c12, b14) kn _) (funext (fun ⟨r9, c11, c12, b14⟩ => spec_l1Cur_board_iter26 F c10 k n r9 c11 c12 b14))))
theorem spec_l1Cur_board_lok26 (F : Nat) : LoopOK Try.prog (loopAt 26 (bodyOf Try.f22)) (spec_l1Cur_board_ls26 F) := by
  refine loopOK_of mixed ttok deep (spec_l1Cur_board_tabok F) (loopsOK_at (spec_l1Cur_board_lsok3 F) 26) (fuel := 70) fun R vals mem np killed k x h => ?_
  simp only [spec_l1Cur_board_ls26] at h
  split at h
  · rename_i r9 c10 c11 c12 q_t213 b14
    simp only [GT.run] at h
    have hc := (cond_noneL h).1
    replace h := (cond_noneL h).2
    have hg := (and_split hc).1
    replace hc := (and_split hc).2
    obtain rfl := beq_li hg
    refine ⟨F, (spec_l1Cur_board_iter26 F c10 k F r9 c11 c12 b14).trans ((loopC_use (spec_l1Cur_board_s26_nat F c10) hc _).trans h)⟩
  · simp only [GT.run] at h
    cases h
noncomputable def spec_l1Cur_board_LS4 (F : Nat) : LT := (26, spec_l1Cur_board_ls26 F) :: spec_l1Cur_board_LS3 F
theorem spec_l1Cur_board_lsok4 (F : Nat) : LoopsOK Try.prog (spec_l1Cur_board_LS4 F) (bodyOf Try.f22) := loopsOK_cons spec_l1Cur_board_keys (spec_l1Cur_board_lok26 F) (spec_l1Cur_board_lsok3 F)
theorem spec_l1Cur_board_run (F : Nat) (c3 : List Int) (c4 : Int) (c5 : Int) : runS tt (spec_l1Cur_board_tab F) (spec_l1Cur_board_LS4 F) [] [] Try.f22 (bodyOf Try.f22) 70 [(.ptr 0 0 0 3)] [(.var 3 (.rv [(.ri .u8 c3), (.int .i64 c4), (.int .u64 c5)]))] = spec_l1Cur_board_c _ F c3 c4 c5 (fun r => some ⟨(.ints 16 r.1), [(.var 3 (.rv [(.ri .u8 c3), (.int .i64 r.2.1), (.int .u64 r.2.2)]))], []⟩) := by kernel_rfl
def spec_l1Cur_board_ent (F : Nat) : Ent := ⟨[], .loud, fun args mem => match args, mem with
  | [(.ptr 0 0 0 3)], [(.var 3 (.rv [(.ri .u8 c3), (.int .i64 c4), (.int .u64 c5)]))] => some ((spec_l1Cur_board_p F c3 c4 c5).isSome, ⟨(.ints 16 ((spec_l1Cur_board_p F c3 c4 c5).getD default).1), [(.var 3 (.rv [(.ri .u8 c3), (.int .i64 ((spec_l1Cur_board_p F c3 c4 c5).getD default).2.1), (.int .u64 ((spec_l1Cur_board_p F c3 c4 c5).getD default).2.2)]))], []⟩)
  | _, _ => none⟩
theorem spec_l1Cur_board_fok : FunOK Try.prog 22 := funOK Try.func22 (by kernel_rfl) rfl
theorem spec_l1Cur_board_meets (F : Nat) : Meets Try.prog 22 (spec_l1Cur_board_ent F) := by
  refine meets_of_runS mixed ttok deep (spec_l1Cur_board_tabok F) Try.func22 (body_some rfl) (spec_l1Cur_board_lsok4 F) fun args mem hfit ret h => ?_
  clear hfit
  simp only [spec_l1Cur_board_ent] at h
  split at h
  · rename_i c3 c4 c5
    simp only [Option.some.injEq, Prod.mk.injEq] at h
    obtain ⟨hc, rfl⟩ := h
    exact ⟨[], [], 70, _, (spec_l1Cur_board_run F c3 c4 c5).trans ((spec_l1Cur_board_cp _ F c3 c4 c5 _).trans (bind_use hc _)), rfl, rfl, rfl⟩
  · cases h

/-! loop.example/g01194/spec.DrawDoSlides -/
noncomputable def spec_DrawDoSlides_tab (F : Nat) : Tab := [(20, (spec_l1Cur_among_ent F)), (21, (spec_l1Cur_side_ent F)), (22, (spec_l1Cur_board_ent F))]
theorem spec_DrawDoSlides_tabok (F : Nat) : TabOK Try.prog (spec_DrawDoSlides_tab F) := (tab_cons (spec_l1Cur_among_meets F) spec_l1Cur_among_fok (tab_cons (spec_l1Cur_side_meets F) spec_l1Cur_side_fok (tab_cons (spec_l1Cur_board_meets F) spec_l1Cur_board_fok tab_nil)))
noncomputable def spec_DrawDoSlides_LS0 (F : Nat) : LT := []
theorem spec_DrawDoSlides_lsok0 (F : Nat) : LoopsOK Try.prog (spec_DrawDoSlides_LS0 F) (bodyOf Try.f5) := loopsOK_nil
theorem spec_DrawDoSlides_keys : keysOK (bodyOf Try.f5) = true := by kernel_rfl
def spec_DrawDoSlides_st4 (c10 : List Int) (n8 : Int) (c11 : Int) (c12 : Int) (list13 : List Int) : St := ⟨expand 26 0 [2, 4, 5, 6] [(.ptr 0 0 0 16), (.ptr 1 0 0 3), (.sl 2 0 (List.length list13)), (.int .i64 n8)], [(.var 16 (.ri .i64 [(0 : Int), (0 : Int), (0 : Int), (0 : Int), (0 : Int), (0 : Int), (0 : Int), (0 : Int), (0 : Int), (0 : Int), (0 : Int), (0 : Int), (0 : Int), (0 : Int), (0 : Int), (0 : Int)])), (.var 3 (.rv [(.ri .u8 c10), (.int .i64 c11), (.int .u64 c12)])), (.vec 3 (.ri .i64 list13))], 0, []⟩
def spec_DrawDoSlides_o4 (c10 : List Int) (x : Int × Int × List Int) : GT := (.out (.exit 0 ⟨expand 26 0 [2, 4, 5] [(.ptr 0 0 0 16), (.ptr 1 0 0 3), (.sl 2 0 (List.length x.2.2))], [(.var 16 (.ri .i64 [(0 : Int), (0 : Int), (0 : Int), (0 : Int), (0 : Int), (0 : Int), (0 : Int), (0 : Int), (0 : Int), (0 : Int), (0 : Int), (0 : Int), (0 : Int), (0 : Int), (0 : Int), (0 : Int)])), (.var 3 (.rv [(.ri .u8 c10), (.int .i64 x.1), (.int .u64 x.2.1)])), (.vec 3 (.ri .i64 x.2.2))], 0, []⟩))
def spec_DrawDoSlides_ls4 (F : Nat) : LoopS := ⟨26, [2, 4, 5, 6], [], [2, 4, 5], [], [2, 3], [], [], fun vals mem np killed => match vals, mem, np, killed with
  | [(.ptr 0 0 0 16), (.ptr 1 0 0 3), (.sl 2 0 q_list7), (.int .i64 n8)], [(.var 16 (.ri .i64 q_t29)), (.var 3 (.rv [(.ri .u8 c10), (.int .i64 c11), (.int .u64 c12)])), (.vec 3 (.ri .i64 list13))], 0, [] => .br ((q_t29 == ([(0 : Int), (0 : Int), (0 : Int), (0 : Int), (0 : Int), (0 : Int), (0 : Int), (0 : Int), (0 : Int), (0 : Int), (0 : Int), (0 : Int), (0 : Int), (0 : Int), (0 : Int), (0 : Int)] : List Int)) && ((Nat.beq q_list7 (List.length list13)) && (spec_DrawDoSlides_l4 F c10 n8 c11 c12 list13).isSome)) (spec_DrawDoSlides_o4 c10 ((spec_DrawDoSlides_l4 F c10 n8 c11 c12 list13).getD default)) .fail
  | _, _, _, _ => .fail⟩
theorem spec_DrawDoSlides_step4 (F : Nat) (c10 : List Int) (n8 : Int) (c11 : Int) (c12 : Int) (list13 : List Int) {R : Type} (k : Out → Option R) : stepS tt (spec_DrawDoSlides_tab F) (spec_DrawDoSlides_LS0 F) 70 (spec_DrawDoSlides_ls4 F) (loopAt 4 (bodyOf Try.f5)) (spec_DrawDoSlides_st4 c10 n8 c11 c12 list13) k = spec_DrawDoSlides_s4 F c10 R (n8, c11, c12, list13) (fun s => k (.norm (spec_DrawDoSlides_st4 c10 s.1 s.2.1 s.2.2.1 s.2.2.2))) (fun x => (spec_DrawDoSlides_o4 c10 x).run k) := by kernel_rfl
theorem spec_DrawDoSlides_iter4 (F : Nat) (c10 : List Int) {R : Type} (k : Out → Option R) : ∀ (n : Nat) (n8 : Int) (c11 : Int) (c12 : Int) (list13 : List Int), iterS tt (spec_DrawDoSlides_tab F) (spec_DrawDoSlides_LS0 F) 70 (spec_DrawDoSlides_ls4 F) (loopAt 4 (bodyOf Try.f5)) n (spec_DrawDoSlides_st4 c10 n8 c11 c12 list13) k = loopC (spec_DrawDoSlides_s4 F c10) n (n8, c11, c12, list13) (fun x => (spec_DrawDoSlides_o4 c10 x).run k)
  | 0, n8, c11, c12, list13 => rfl
  | n + 1, n8, c11, c12, list13 => (iterS_succ tt (spec_DrawDoSlides_tab F) (spec_DrawDoSlides_LS0 F) 70 (spec_DrawDoSlides_ls4 F) (loopAt 4 (bodyOf Try.f5)) n (spec_DrawDoSlides_st4 c10 n8 c11 c12 list13) k).trans ((spec_DrawDoSlides_step4 F c10 n8 c11 c12 list13 (nextK (iterS tt (spec_DrawDoSlides_tab F) (spec_DrawDoSlides_LS0 F) 70 (spec_DrawDoSlides_ls4 F) (loopAt 4 (bodyOf Try.f5)) n) k)).trans (congrArg (fun kn => spec_DrawDoSlides_s4 F c10 R (n8, c11, c12, list13) kn _) (funext (fun ⟨n8, c11, c12, list13⟩ => spec_DrawDoSlides_iter4 F c10 k n n8 c11 c12 list13))))
theorem spec_DrawDoSlides_lok4 (F : Nat) : LoopOK Try.prog (loopAt 4 (bodyOf Try.f5)) (spec_DrawDoSlides_ls4 F) := by
  refine loopOK_of mixed ttok deep (spec_DrawDoSlides_tabok F) (loopsOK_at (spec_DrawDoSlides_lsok0 F) 4) (fuel := 70) fun R vals mem np killed k x h => ?_
  simp only [spec_DrawDoSlides_ls4] at h
  split at h
  · rename_i q_list7 n8 q_t29 c10 c11 c12 list13
    simp only [GT.run] at h
    have hc := (cond_noneL h).1
    replace h := (cond_noneL h).2
    have hg := (and_split hc).1
    replace hc := (and_split hc).2
    obtain rfl := beq_li hg
    have hg := (and_split hc).1
    replace hc := (and_split hc).2
    obtain rfl := nbeq_nat hg
    refine ⟨F, (spec_DrawDoSlides_iter4 F c10 k F n8 c11 c12 list13).trans ((loopC_use (spec_DrawDoSlides_s4_nat F c10) hc _).trans h)⟩
  · simp only [GT.run] at h
    cases h
noncomputable def spec_DrawDoSlides_LS1 (F : Nat) : LT := (4, spec_DrawDoSlides_ls4 F) :: spec_DrawDoSlides_LS0 F
theorem spec_DrawDoSlides_lsok1 (F : Nat) : LoopsOK Try.prog (spec_DrawDoSlides_LS1 F) (bodyOf Try.f5) := loopsOK_cons spec_DrawDoSlides_keys (spec_DrawDoSlides_lok4 F) (spec_DrawDoSlides_lsok0 F)
theorem spec_DrawDoSlides_run (F : Nat) (code0 : List Int) : runS tt (spec_DrawDoSlides_tab F) (spec_DrawDoSlides_LS1 F) [] [] Try.f5 (bodyOf Try.f5) 70 [(.ri .u8 code0)] [] = spec_DrawDoSlides_c _ F code0 (fun r => some ⟨(.tup [(.ints 16 r.1), (.sl 0 0 (List.length r.2))]), [(.vec 3 (.ri .i64 r.2))], []⟩) := by kernel_rfl
def spec_DrawDoSlides_ent (F : Nat) : Ent := ⟨[], .fresh, fun args mem => match args, mem with
  | [(.ri .u8 code0)], [] => some ((spec_DrawDoSlides_p F code0).isSome, ⟨(.tup [(.ints 16 ((spec_DrawDoSlides_p F code0).getD default).1), (.sl 0 0 (List.length ((spec_DrawDoSlides_p F code0).getD default).2))]), [(.vec 3 (.ri .i64 ((spec_DrawDoSlides_p F code0).getD default).2))], []⟩)
  | _, _ => none⟩
theorem spec_DrawDoSlides_fok : FunOK Try.prog 5 := funOK Try.func5 (by kernel_rfl) rfl
theorem spec_DrawDoSlides_meets (F : Nat) : Meets Try.prog 5 (spec_DrawDoSlides_ent F) := by
  refine meets_of_runS mixed ttok deep (spec_DrawDoSlides_tabok F) Try.func5 (body_some rfl) (spec_DrawDoSlides_lsok1 F) fun args mem hfit ret h => ?_
  clear hfit
  simp only [spec_DrawDoSlides_ent] at h
  split at h
  · rename_i code0
    simp only [Option.some.injEq, Prod.mk.injEq] at h
    obtain ⟨hc, rfl⟩ := h
    exact ⟨[], [], 70, _, (spec_DrawDoSlides_run F code0).trans ((spec_DrawDoSlides_cp _ F code0 _).trans (bind_use hc _)), rfl, rfl, rfl⟩
  · cases h

/-! loop.example/g01194/impl.in -/
noncomputable def impl_in_tab (F : Nat) : Tab := []
theorem impl_in_tabok (F : Nat) : TabOK Try.prog (impl_in_tab F) := tab_nil
noncomputable def impl_in_LS0 (F : Nat) : LT := []
theorem impl_in_lsok0 (F : Nat) : LoopsOK Try.prog (impl_in_LS0 F) (bodyOf Try.f29) := loopsOK_nil
theorem impl_in_run (F : Nat) (n0 : Int) (low1 : Int) (high2 : Int) : runS tt (impl_in_tab F) (impl_in_LS0 F) [] [] Try.f29 (bodyOf Try.f29) 70 [(.int .i64 n0), (.int .i64 low1), (.int .i64 high2)] [] = impl_in_c _ n0 low1 high2 (fun r => some ⟨(.bool r), [], []⟩) := by kernel_rfl
def impl_in_ent (F : Nat) : Ent := ⟨[], .quiet, fun args mem => match args, mem with
  | [(.int .i64 n0), (.int .i64 low1), (.int .i64 high2)], [] => some (true, ⟨(.bool (impl_in_v n0 low1 high2)), [], []⟩)
  | _, _ => none⟩
theorem impl_in_fok : FunOK Try.prog 29 := funOK Try.func29 (by kernel_rfl) rfl
theorem impl_in_meets (F : Nat) : Meets Try.prog 29 (impl_in_ent F) := by
  refine meets_of_runS mixed ttok deep (impl_in_tabok F) Try.func29 (body_some rfl) (impl_in_lsok0 F) fun args mem hfit ret h => ?_
  clear hfit
  simp only [impl_in_ent] at h
  split at h
  · rename_i n0 low1 high2
    simp only [Option.some.injEq, Prod.mk.injEq] at h
    obtain ⟨hc, rfl⟩ := h
    exact ⟨[], [], 70, _, (impl_in_run F n0 low1 high2).trans (impl_in_cv _ n0 low1 high2 _), rfl, rfl, rfl⟩
  · cases h

/-! loop.example/g01194/impl.IsRow$1 -/
noncomputable def impl_IsRow_f1_tab (F : Nat) : Tab := [(29, (impl_in_ent F))]
theorem impl_IsRow_f1_tabok (F : Nat) : TabOK Try.prog (impl_IsRow_f1_tab F) := (tab_cons (impl_in_meets F) impl_in_fok tab_nil)
noncomputable def impl_IsRow_f1_LS0 (F : Nat) : LT := []
theorem impl_IsRow_f1_lsok0 (F : Nat) : LoopsOK Try.prog (impl_IsRow_f1_LS0 F) (bodyOf Try.f70) := loopsOK_nil
theorem impl_IsRow_f1_run (F : Nat) (n0 : Int) : runS tt (impl_IsRow_f1_tab F) (impl_IsRow_f1_LS0 F) [] [] Try.f70 (bodyOf Try.f70) 70 [(.int .i64 n0)] [] = impl_IsRow_f1_c _ n0 (fun r => some ⟨(.bool r), [], []⟩) := by kernel_rfl
def impl_IsRow_f1_ent (F : Nat) : Ent := ⟨[], .quiet, fun args mem => match args, mem with
  | [(.int .i64 n0)], [] => some (true, ⟨(.bool (impl_IsRow_f1_v n0)), [], []⟩)
  | _, _ => none⟩
theorem impl_IsRow_f1_fok : FunOK Try.prog 70 := funOK Try.func70 (by kernel_rfl) rfl
theorem impl_IsRow_f1_meets (F : Nat) : Meets Try.prog 70 (impl_IsRow_f1_ent F) := by
  refine meets_of_runS mixed ttok deep (impl_IsRow_f1_tabok F) Try.func70 (body_some rfl) (impl_IsRow_f1_lsok0 F) fun args mem hfit ret h => ?_
  clear hfit
  simp only [impl_IsRow_f1_ent] at h
  split at h
  · rename_i n0
    simp only [Option.some.injEq, Prod.mk.injEq] at h
    obtain ⟨hc, rfl⟩ := h
    exact ⟨[], [], 70, _, (impl_IsRow_f1_run F n0).trans (impl_IsRow_f1_cv _ n0 _), rfl, rfl, rfl⟩
  · cases h

/-! slices.IndexFunc[[]int,int] -/
noncomputable def slices_IndexFunc_intint_impl_IsRow_f1_tab (F : Nat) : Tab := [(70, (impl_IsRow_f1_ent F))]
theorem slices_IndexFunc_intint_impl_IsRow_f1_tabok (F : Nat) : TabOK Try.prog (slices_IndexFunc_intint_impl_IsRow_f1_tab F) := (tab_cons (impl_IsRow_f1_meets F) impl_IsRow_f1_fok tab_nil)
noncomputable def slices_IndexFunc_intint_impl_IsRow_f1_LS0 (F : Nat) : LT := []
theorem slices_IndexFunc_intint_impl_IsRow_f1_lsok0 (F : Nat) : LoopsOK Try.prog (slices_IndexFunc_intint_impl_IsRow_f1_LS0 F) (bodyOf Try.f71) := loopsOK_nil
theorem slices_IndexFunc_intint_impl_IsRow_f1_keys : keysOK (bodyOf Try.f71) = true := by kernel_rfl
def slices_IndexFunc_intint_impl_IsRow_f1_st2 (s0 : List Int) (t71 : Int) (t82 : Int) : St := ⟨expand 19 0 [0, 1, 7, 8] [(.ri .i64 s0), (.fn 70 [] []), (.int .i64 t71), (.int .i64 t82)], [], 0, []⟩
def slices_IndexFunc_intint_impl_IsRow_f1_o2 (s0 : List Int) (t71 : Int) (x : Bool × Int) : GT := (.br x.1 (.out (.ret ⟨expand 19 0 [4] [(.int .i64 x.2)], [], 0, []⟩)) (.out (.exit 0 ⟨expand 19 0 [] [], [], 0, []⟩)))
def slices_IndexFunc_intint_impl_IsRow_f1_ls2 (F : Nat) : LoopS := ⟨19, [0, 1, 7, 8], [], [], [], [4], [], [], fun vals mem np killed => match vals, mem, np, killed with
  | [(.ri .i64 s0), (.fn 70 [] []), (.int .i64 t71), (.int .i64 t82)], [], 0, [] => .br (slices_IndexFunc_intint_impl_IsRow_f1_l2 F s0 t71 t82).isSome (slices_IndexFunc_intint_impl_IsRow_f1_o2 s0 t71 ((slices_IndexFunc_intint_impl_IsRow_f1_l2 F s0 t71 t82).getD default)) .fail
  | _, _, _, _ => .fail⟩
theorem slices_IndexFunc_intint_impl_IsRow_f1_step2 (F : Nat) (s0 : List Int) (t71 : Int) (t82 : Int) {R : Type} (k : Out → Option R) : stepS tt (slices_IndexFunc_intint_impl_IsRow_f1_tab F) (slices_IndexFunc_intint_impl_IsRow_f1_LS0 F) 70 (slices_IndexFunc_intint_impl_IsRow_f1_ls2 F) (loopAt 2 (bodyOf Try.f71)) (slices_IndexFunc_intint_impl_IsRow_f1_st2 s0 t71 t82) k = slices_IndexFunc_intint_impl_IsRow_f1_s2 F s0 t71 R t82 (fun s => k (.norm (slices_IndexFunc_intint_impl_IsRow_f1_st2 s0 t71 s))) (fun x => (slices_IndexFunc_intint_impl_IsRow_f1_o2 s0 t71 x).run k) := by kernel_rfl
theorem slices_IndexFunc_intint_impl_IsRow_f1_iter2 (F : Nat) (s0 : List Int) (t71 : Int) {R : Type} (k : Out → Option R) : ∀ (n : Nat) (t82 : Int), iterS tt (slices_IndexFunc_intint_impl_IsRow_f1_tab F) (slices_IndexFunc_intint_impl_IsRow_f1_LS0 F) 70 (slices_IndexFunc_intint_impl_IsRow_f1_ls2 F) (loopAt 2 (bodyOf Try.f71)) n (slices_IndexFunc_intint_impl_IsRow_f1_st2 s0 t71 t82) k = loopC (slices_IndexFunc_intint_impl_IsRow_f1_s2 F s0 t71) n t82 (fun x => (slices_IndexFunc_intint_impl_IsRow_f1_o2 s0 t71 x).run k)
  | 0, t82 => rfl
  | n + 1, t82 => (iterS_succ tt (slices_IndexFunc_intint_impl_IsRow_f1_tab F) (slices_IndexFunc_intint_impl_IsRow_f1_LS0 F) 70 (slices_IndexFunc_intint_impl_IsRow_f1_ls2 F) (loopAt 2 (bodyOf Try.f71)) n (slices_IndexFunc_intint_impl_IsRow_f1_st2 s0 t71 t82) k).trans ((slices_IndexFunc_intint_impl_IsRow_f1_step2 F s0 t71 t82 (nextK (iterS tt (slices_IndexFunc_intint_impl_IsRow_f1_tab F) (slices_IndexFunc_intint_impl_IsRow_f1_LS0 F) 70 (slices_IndexFunc_intint_impl_IsRow_f1_ls2 F) (loopAt 2 (bodyOf Try.f71)) n) k)).trans (congrArg (fun kn => slices_IndexFunc_intint_impl_IsRow_f1_s2 F s0 t71 R t82 kn _) (funext (fun t82 => slices_IndexFunc_intint_impl_IsRow_f1_iter2 F s0 t71 k n t82))))
theorem slices_IndexFunc_intint_impl_IsRow_f1_lok2 (F : Nat) : LoopOK Try.prog (loopAt 2 (bodyOf Try.f71)) (slices_IndexFunc_intint_impl_IsRow_f1_ls2 F) := by
  refine loopOK_of mixed ttok deep (slices_IndexFunc_intint_impl_IsRow_f1_tabok F) (loopsOK_at (slices_IndexFunc_intint_impl_IsRow_f1_lsok0 F) 2) (fuel := 70) fun R vals mem np killed k x h => ?_
  simp only [slices_IndexFunc_intint_impl_IsRow_f1_ls2] at h
  split at h
  · rename_i s0 t71 t82
    simp only [GT.run] at h
    have hc := (cond_noneL h).1
    replace h := (cond_noneL h).2
    refine ⟨F, (slices_IndexFunc_intint_impl_IsRow_f1_iter2 F s0 t71 k F t82).trans ((loopC_use (slices_IndexFunc_intint_impl_IsRow_f1_s2_nat F s0 t71) hc _).trans h)⟩
  · simp only [GT.run] at h
    cases h
noncomputable def slices_IndexFunc_intint_impl_IsRow_f1_LS1 (F : Nat) : LT := (2, slices_IndexFunc_intint_impl_IsRow_f1_ls2 F) :: slices_IndexFunc_intint_impl_IsRow_f1_LS0 F
theorem slices_IndexFunc_intint_impl_IsRow_f1_lsok1 (F : Nat) : LoopsOK Try.prog (slices_IndexFunc_intint_impl_IsRow_f1_LS1 F) (bodyOf Try.f71) := loopsOK_cons slices_IndexFunc_intint_impl_IsRow_f1_keys (slices_IndexFunc_intint_impl_IsRow_f1_lok2 F) (slices_IndexFunc_intint_impl_IsRow_f1_lsok0 F)
theorem slices_IndexFunc_intint_impl_IsRow_f1_run (F : Nat) (s0 : List Int) : runS tt (slices_IndexFunc_intint_impl_IsRow_f1_tab F) (slices_IndexFunc_intint_impl_IsRow_f1_LS1 F) [] [] Try.f71 (bodyOf Try.f71) 70 [(.ri .i64 s0), (.fn 70 [] [])] [] = slices_IndexFunc_intint_impl_IsRow_f1_c _ F s0 (fun r => some ⟨(.int .i64 r), [], []⟩) := by kernel_rfl
def slices_IndexFunc_intint_impl_IsRow_f1_ent (F : Nat) : Ent := ⟨[], .quiet, fun args mem => match args, mem with
  | [(.ri .i64 s0), (.fn 70 [] [])], [] => some ((slices_IndexFunc_intint_impl_IsRow_f1_p F s0).isSome, ⟨(.int .i64 ((slices_IndexFunc_intint_impl_IsRow_f1_p F s0).getD default)), [], []⟩)
  | _, _ => none⟩
theorem slices_IndexFunc_intint_impl_IsRow_f1_fok : FunOK Try.prog 71 := funOK Try.func71 (by kernel_rfl) rfl
theorem slices_IndexFunc_intint_impl_IsRow_f1_meets (F : Nat) : Meets Try.prog 71 (slices_IndexFunc_intint_impl_IsRow_f1_ent F) := by
  refine meets_of_runS mixed ttok deep (slices_IndexFunc_intint_impl_IsRow_f1_tabok F) Try.func71 (body_some rfl) (slices_IndexFunc_intint_impl_IsRow_f1_lsok1 F) fun args mem hfit ret h => ?_
  clear hfit
  simp only [slices_IndexFunc_intint_impl_IsRow_f1_ent] at h
  split at h
  · rename_i s0
    simp only [Option.some.injEq, Prod.mk.injEq] at h
    obtain ⟨hc, rfl⟩ := h
    exact ⟨[], [], 70, _, (slices_IndexFunc_intint_impl_IsRow_f1_run F s0).trans ((slices_IndexFunc_intint_impl_IsRow_f1_cp _ F s0 _).trans (bind_use hc _)), rfl, rfl, rfl⟩
  · cases h

/-! slices.ContainsFunc[[]int,int] -/
noncomputable def slices_ContainsFunc_intint_impl_IsRow_f1_tab (F : Nat) : Tab := [(71, (slices_IndexFunc_intint_impl_IsRow_f1_ent F))]
theorem slices_ContainsFunc_intint_impl_IsRow_f1_tabok (F : Nat) : TabOK Try.prog (slices_ContainsFunc_intint_impl_IsRow_f1_tab F) := (tab_cons (slices_IndexFunc_intint_impl_IsRow_f1_meets F) slices_IndexFunc_intint_impl_IsRow_f1_fok tab_nil)
noncomputable def slices_ContainsFunc_intint_impl_IsRow_f1_LS0 (F : Nat) : LT := []
theorem slices_ContainsFunc_intint_impl_IsRow_f1_lsok0 (F : Nat) : LoopsOK Try.prog (slices_ContainsFunc_intint_impl_IsRow_f1_LS0 F) (bodyOf Try.f49) := loopsOK_nil
theorem slices_ContainsFunc_intint_impl_IsRow_f1_run (F : Nat) (s0 : List Int) : runS tt (slices_ContainsFunc_intint_impl_IsRow_f1_tab F) (slices_ContainsFunc_intint_impl_IsRow_f1_LS0 F) [] [] Try.f49 (bodyOf Try.f49) 70 [(.ri .i64 s0), (.fn 70 [] [])] [] = slices_ContainsFunc_intint_impl_IsRow_f1_c _ F s0 (fun r => some ⟨(.bool r), [], []⟩) := by kernel_rfl
def slices_ContainsFunc_intint_impl_IsRow_f1_ent (F : Nat) : Ent := ⟨[], .quiet, fun args mem => match args, mem with
  | [(.ri .i64 s0), (.fn 70 [] [])], [] => some ((slices_ContainsFunc_intint_impl_IsRow_f1_p F s0).isSome, ⟨(.bool ((slices_ContainsFunc_intint_impl_IsRow_f1_p F s0).getD default)), [], []⟩)
  | _, _ => none⟩
theorem slices_ContainsFunc_intint_impl_IsRow_f1_fok : FunOK Try.prog 49 := funOK Try.func49 (by kernel_rfl) rfl
theorem slices_ContainsFunc_intint_impl_IsRow_f1_meets (F : Nat) : Meets Try.prog 49 (slices_ContainsFunc_intint_impl_IsRow_f1_ent F) := by
  refine meets_of_runS mixed ttok deep (slices_ContainsFunc_intint_impl_IsRow_f1_tabok F) Try.func49 (body_some rfl) (slices_ContainsFunc_intint_impl_IsRow_f1_lsok0 F) fun args mem hfit ret h => ?_
  clear hfit
  simp only [slices_ContainsFunc_intint_impl_IsRow_f1_ent] at h
  split at h
  · rename_i s0
    simp only [Option.some.injEq, Prod.mk.injEq] at h
    obtain ⟨hc, rfl⟩ := h
    exact ⟨[], [], 70, _, (slices_ContainsFunc_intint_impl_IsRow_f1_run F s0).trans ((slices_ContainsFunc_intint_impl_IsRow_f1_cp _ F s0 _).trans (bind_use hc _)), rfl, rfl, rfl⟩
  · cases h

/-! loop.example/g01194/impl.IsRow -/
noncomputable def impl_IsRow_tab (F : Nat) : Tab := [(49, (slices_ContainsFunc_intint_impl_IsRow_f1_ent F))]
theorem impl_IsRow_tabok (F : Nat) : TabOK Try.prog (impl_IsRow_tab F) := (tab_cons (slices_ContainsFunc_intint_impl_IsRow_f1_meets F) slices_ContainsFunc_intint_impl_IsRow_f1_fok tab_nil)
noncomputable def impl_IsRow_LS0 (F : Nat) : LT := []
theorem impl_IsRow_lsok0 (F : Nat) : LoopsOK Try.prog (impl_IsRow_LS0 F) (bodyOf Try.f48) := loopsOK_nil
theorem impl_IsRow_run (F : Nat) (row0 : List Int) : runS tt (impl_IsRow_tab F) (impl_IsRow_LS0 F) [] [] Try.f48 (bodyOf Try.f48) 70 [(.ints 4 row0)] [] = impl_IsRow_c _ F row0 (fun r => some ⟨(.bool r), [], []⟩) := by kernel_rfl
def impl_IsRow_ent (F : Nat) : Ent := ⟨[], .quiet, fun args mem => match args, mem with
  | [(.ints 4 row0)], [] => some ((impl_IsRow_p F row0).isSome, ⟨(.bool ((impl_IsRow_p F row0).getD default)), [], []⟩)
  | _, _ => none⟩
theorem impl_IsRow_fok : FunOK Try.prog 48 := funOK Try.func48 (by kernel_rfl) rfl
theorem impl_IsRow_meets (F : Nat) : Meets Try.prog 48 (impl_IsRow_ent F) := by
  refine meets_of_runS mixed ttok deep (impl_IsRow_tabok F) Try.func48 (body_some rfl) (impl_IsRow_lsok0 F) fun args mem hfit ret h => ?_
  clear hfit
  simp only [impl_IsRow_ent] at h
  split at h
  · rename_i row0
    simp only [Option.some.injEq, Prod.mk.injEq] at h
    obtain ⟨hc, rfl⟩ := h
    exact ⟨[], [], 70, _, (impl_IsRow_run F row0).trans ((impl_IsRow_cp _ F row0 _).trans (bind_use hc _)), rfl, rfl, rfl⟩
  · cases h

/-! loop.example/g01194/impl.IsBoard$1 -/
noncomputable def impl_IsBoard_f1_tab (F : Nat) : Tab := [(48, (impl_IsRow_ent F))]
theorem impl_IsBoard_f1_tabok (F : Nat) : TabOK Try.prog (impl_IsBoard_f1_tab F) := (tab_cons (impl_IsRow_meets F) impl_IsRow_fok tab_nil)
noncomputable def impl_IsBoard_f1_LS0 (F : Nat) : LT := []
theorem impl_IsBoard_f1_lsok0 (F : Nat) : LoopsOK Try.prog (impl_IsBoard_f1_LS0 F) (bodyOf Try.f47) := loopsOK_nil
theorem impl_IsBoard_f1_run (F : Nat) (row0 : List Int) : runS tt (impl_IsBoard_f1_tab F) (impl_IsBoard_f1_LS0 F) [] [] Try.f47 (bodyOf Try.f47) 70 [(.ints 4 row0)] [] = impl_IsBoard_f1_c _ F row0 (fun r => some ⟨(.bool r), [], []⟩) := by kernel_rfl
def impl_IsBoard_f1_ent (F : Nat) : Ent := ⟨[], .quiet, fun args mem => match args, mem with
  | [(.ints 4 row0)], [] => some ((impl_IsBoard_f1_p F row0).isSome, ⟨(.bool ((impl_IsBoard_f1_p F row0).getD default)), [], []⟩)
  | _, _ => none⟩
theorem impl_IsBoard_f1_fok : FunOK Try.prog 47 := funOK Try.func47 (by kernel_rfl) rfl
theorem impl_IsBoard_f1_meets (F : Nat) : Meets Try.prog 47 (impl_IsBoard_f1_ent F) := by
  refine meets_of_runS mixed ttok deep (impl_IsBoard_f1_tabok F) Try.func47 (body_some rfl) (impl_IsBoard_f1_lsok0 F) fun args mem hfit ret h => ?_
  clear hfit
  simp only [impl_IsBoard_f1_ent] at h
  split at h
  · rename_i row0
    simp only [Option.some.injEq, Prod.mk.injEq] at h
    obtain ⟨hc, rfl⟩ := h
    exact ⟨[], [], 70, _, (impl_IsBoard_f1_run F row0).trans ((impl_IsBoard_f1_cp _ F row0 _).trans (bind_use hc _)), rfl, rfl, rfl⟩
  · cases h
end Go.Proofs.Ytabfliifleonaah
