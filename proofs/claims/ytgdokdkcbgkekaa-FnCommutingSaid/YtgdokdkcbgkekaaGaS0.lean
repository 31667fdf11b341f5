/-
Pure functions and what the code of them does, by program; without conditions.
-/
import Derived.Test.YtgdokdkcbgkekaaGaP0
import Derived.Test.YtgdokdkcbgkekaaGaA
namespace Go.Proofs.Ytgdokdkcbgkekaa
open Go Go.Lv Go.Lv.P Go.Proofs
set_option linter.unusedVariables false
set_option linter.unusedSimpArgs false
set_option maxRecDepth 100000
/-! loop.example/g01194/laws.vBig -/
noncomputable def laws_vBig_tab (F : Nat) : Tab := []
theorem laws_vBig_tabok (F : Nat) : TabOK Try.prog (laws_vBig_tab F) := tab_nil
noncomputable def laws_vBig_LS0 (F : Nat) : LT := []
theorem laws_vBig_lsok0 (F : Nat) : LoopsOK Try.prog (laws_vBig_LS0 F) (bodyOf Try.f4) := loopsOK_nil
theorem laws_vBig_run (F : Nat) (code0 : List Int) : runS tt (laws_vBig_tab F) (laws_vBig_LS0 F) [] [] Try.f4 (bodyOf Try.f4) 70 [(.ri .u8 code0)] [] = laws_vBig_c _ code0 (fun r => some ⟨(.bool r), [], []⟩) := by kernel_rfl
def laws_vBig_ent (F : Nat) : Ent := ⟨[], .quiet, fun args mem => match args, mem with
  | [(.ri .u8 code0)], [] => some (true, ⟨(.bool (laws_vBig_v code0)), [], []⟩)
  | _, _ => none⟩
theorem laws_vBig_fok : FunOK Try.prog 4 := funOK Try.func4 (by kernel_rfl) rfl
theorem laws_vBig_meets (F : Nat) : Meets Try.prog 4 (laws_vBig_ent F) := by
  refine meets_of_runS mixed ttok deep (laws_vBig_tabok F) Try.func4 (body_some rfl) (laws_vBig_lsok0 F) fun args mem hfit ret h => ?_
  clear hfit
  simp only [laws_vBig_ent] at h
  split at h
  · rename_i code0
    simp only [Option.some.injEq, Prod.mk.injEq] at h
    obtain ⟨hc, rfl⟩ := h
    exact ⟨[], [], 70, _, (laws_vBig_run F code0).trans (laws_vBig_cv _ code0 _), rfl, rfl, rfl⟩
  · cases h

/-! (*loop.example/g01194/spec.l1Cur).next -/
noncomputable def spec_l1Cur_next_tab (F : Nat) : Tab := []
theorem spec_l1Cur_next_tabok (F : Nat) : TabOK Try.prog (spec_l1Cur_next_tab F) := tab_nil
noncomputable def spec_l1Cur_next_LS0 (F : Nat) : LT := []
theorem spec_l1Cur_next_lsok0 (F : Nat) : LoopsOK Try.prog (spec_l1Cur_next_LS0 F) (bodyOf Try.f47) := loopsOK_nil
theorem spec_l1Cur_next_run (F : Nat) (c3 : List Int) (c4 : Int) (c5 : Int) : runS tt (spec_l1Cur_next_tab F) (spec_l1Cur_next_LS0 F) [] [] Try.f47 (bodyOf Try.f47) 70 [(.ptr 0 0 0 3)] [(.var 3 (.rv [(.ri .u8 c3), (.int .i64 c4), (.int .u64 c5)]))] = spec_l1Cur_next_c _ c3 c4 c5 (fun r => some ⟨(.int .i64 r.1), [(.var 3 (.rv [(.ri .u8 c3), (.int .i64 r.2.1), (.int .u64 r.2.2)]))], []⟩) := by kernel_rfl
def spec_l1Cur_next_ent (F : Nat) : Ent := ⟨[], .loud, fun args mem => match args, mem with
  | [(.ptr 0 0 0 3)], [(.var 3 (.rv [(.ri .u8 c3), (.int .i64 c4), (.int .u64 c5)]))] => some ((spec_l1Cur_next_p c3 c4 c5).isSome, ⟨(.int .i64 ((spec_l1Cur_next_p c3 c4 c5).getD default).1), [(.var 3 (.rv [(.ri .u8 c3), (.int .i64 ((spec_l1Cur_next_p c3 c4 c5).getD default).2.1), (.int .u64 ((spec_l1Cur_next_p c3 c4 c5).getD default).2.2)]))], []⟩)
  | _, _ => none⟩
theorem spec_l1Cur_next_fok : FunOK Try.prog 47 := funOK Try.func47 (by kernel_rfl) rfl
theorem spec_l1Cur_next_meets (F : Nat) : Meets Try.prog 47 (spec_l1Cur_next_ent F) := by
  refine meets_of_runS mixed ttok deep (spec_l1Cur_next_tabok F) Try.func47 (body_some rfl) (spec_l1Cur_next_lsok0 F) fun args mem hfit ret h => ?_
  clear hfit
  simp only [spec_l1Cur_next_ent] at h
  split at h
  · rename_i c3 c4 c5
    simp only [Option.some.injEq, Prod.mk.injEq] at h
    obtain ⟨hc, rfl⟩ := h
    exact ⟨[], [], 70, _, (spec_l1Cur_next_run F c3 c4 c5).trans ((spec_l1Cur_next_cp _ c3 c4 c5 _).trans (bind_use hc _)), rfl, rfl, rfl⟩
  · cases h

/-! (*loop.example/g01194/spec.l1Cur).pick -/
noncomputable def spec_l1Cur_pick_tab (F : Nat) : Tab := [(47, (spec_l1Cur_next_ent F))]
theorem spec_l1Cur_pick_tabok (F : Nat) : TabOK Try.prog (spec_l1Cur_pick_tab F) := (tab_cons (spec_l1Cur_next_meets F) spec_l1Cur_next_fok tab_nil)
noncomputable def spec_l1Cur_pick_LS0 (F : Nat) : LT := []
theorem spec_l1Cur_pick_lsok0 (F : Nat) : LoopsOK Try.prog (spec_l1Cur_pick_LS0 F) (bodyOf Try.f30) := loopsOK_nil
theorem spec_l1Cur_pick_run (F : Nat) (n3 : Int) (c4 : List Int) (c5 : Int) (c6 : Int) : runS tt (spec_l1Cur_pick_tab F) (spec_l1Cur_pick_LS0 F) [] [] Try.f30 (bodyOf Try.f30) 70 [(.ptr 0 0 0 3), (.int .i64 n3)] [(.var 3 (.rv [(.ri .u8 c4), (.int .i64 c5), (.int .u64 c6)]))] = spec_l1Cur_pick_c _ n3 c4 c5 c6 (fun r => some ⟨(.int .i64 r.1), [(.var 3 (.rv [(.ri .u8 c4), (.int .i64 r.2.1), (.int .u64 r.2.2)]))], []⟩) := by kernel_rfl
def spec_l1Cur_pick_ent (F : Nat) : Ent := ⟨[], .loud, fun args mem => match args, mem with
  | [(.ptr 0 0 0 3), (.int .i64 n3)], [(.var 3 (.rv [(.ri .u8 c4), (.int .i64 c5), (.int .u64 c6)]))] => some ((spec_l1Cur_pick_p n3 c4 c5 c6).isSome, ⟨(.int .i64 ((spec_l1Cur_pick_p n3 c4 c5 c6).getD default).1), [(.var 3 (.rv [(.ri .u8 c4), (.int .i64 ((spec_l1Cur_pick_p n3 c4 c5 c6).getD default).2.1), (.int .u64 ((spec_l1Cur_pick_p n3 c4 c5 c6).getD default).2.2)]))], []⟩)
  | _, _ => none⟩
theorem spec_l1Cur_pick_fok : FunOK Try.prog 30 := funOK Try.func30 (by kernel_rfl) rfl
theorem spec_l1Cur_pick_meets (F : Nat) : Meets Try.prog 30 (spec_l1Cur_pick_ent F) := by
  refine meets_of_runS mixed ttok deep (spec_l1Cur_pick_tabok F) Try.func30 (body_some rfl) (spec_l1Cur_pick_lsok0 F) fun args mem hfit ret h => ?_
  clear hfit
  simp only [spec_l1Cur_pick_ent] at h
  split at h
  · rename_i n3 c4 c5 c6
    simp only [Option.some.injEq, Prod.mk.injEq] at h
    obtain ⟨hc, rfl⟩ := h
    exact ⟨[], [], 70, _, (spec_l1Cur_pick_run F n3 c4 c5 c6).trans ((spec_l1Cur_pick_cp _ n3 c4 c5 c6 _).trans (bind_use hc _)), rfl, rfl, rfl⟩
  · cases h

/-! (*loop.example/g01194/spec.l1Cur).one -/
noncomputable def spec_l1Cur_one_tab (F : Nat) : Tab := [(30, (spec_l1Cur_pick_ent F))]
theorem spec_l1Cur_one_tabok (F : Nat) : TabOK Try.prog (spec_l1Cur_one_tab F) := (tab_cons (spec_l1Cur_pick_meets F) spec_l1Cur_pick_fok tab_nil)
noncomputable def spec_l1Cur_one_LS0 (F : Nat) : LT := []
theorem spec_l1Cur_one_lsok0 (F : Nat) : LoopsOK Try.prog (spec_l1Cur_one_LS0 F) (bodyOf Try.f29) := loopsOK_nil
theorem spec_l1Cur_one_run (F : Nat) (n3 : Int) (c4 : List Int) (c5 : Int) (c6 : Int) : runS tt (spec_l1Cur_one_tab F) (spec_l1Cur_one_LS0 F) [] [] Try.f29 (bodyOf Try.f29) 70 [(.ptr 0 0 0 3), (.int .i64 n3)] [(.var 3 (.rv [(.ri .u8 c4), (.int .i64 c5), (.int .u64 c6)]))] = spec_l1Cur_one_c _ n3 c4 c5 c6 (fun r => some ⟨(.bool r.1), [(.var 3 (.rv [(.ri .u8 c4), (.int .i64 r.2.1), (.int .u64 r.2.2)]))], []⟩) := by kernel_rfl
def spec_l1Cur_one_ent (F : Nat) : Ent := ⟨[], .loud, fun args mem => match args, mem with
  | [(.ptr 0 0 0 3), (.int .i64 n3)], [(.var 3 (.rv [(.ri .u8 c4), (.int .i64 c5), (.int .u64 c6)]))] => some ((spec_l1Cur_one_p n3 c4 c5 c6).isSome, ⟨(.bool ((spec_l1Cur_one_p n3 c4 c5 c6).getD default).1), [(.var 3 (.rv [(.ri .u8 c4), (.int .i64 ((spec_l1Cur_one_p n3 c4 c5 c6).getD default).2.1), (.int .u64 ((spec_l1Cur_one_p n3 c4 c5 c6).getD default).2.2)]))], []⟩)
  | _, _ => none⟩
theorem spec_l1Cur_one_fok : FunOK Try.prog 29 := funOK Try.func29 (by kernel_rfl) rfl
theorem spec_l1Cur_one_meets (F : Nat) : Meets Try.prog 29 (spec_l1Cur_one_ent F) := by
  refine meets_of_runS mixed ttok deep (spec_l1Cur_one_tabok F) Try.func29 (body_some rfl) (spec_l1Cur_one_lsok0 F) fun args mem hfit ret h => ?_
  clear hfit
  simp only [spec_l1Cur_one_ent] at h
  split at h
  · rename_i n3 c4 c5 c6
    simp only [Option.some.injEq, Prod.mk.injEq] at h
    obtain ⟨hc, rfl⟩ := h
    exact ⟨[], [], 70, _, (spec_l1Cur_one_run F n3 c4 c5 c6).trans ((spec_l1Cur_one_cp _ n3 c4 c5 c6 _).trans (bind_use hc _)), rfl, rfl, rfl⟩
  · cases h

/-! (*loop.example/g01194/spec.l1Cur).among -/
noncomputable def spec_l1Cur_among_tab (F : Nat) : Tab := [(30, (spec_l1Cur_pick_ent F))]
theorem spec_l1Cur_among_tabok (F : Nat) : TabOK Try.prog (spec_l1Cur_among_tab F) := (tab_cons (spec_l1Cur_pick_meets F) spec_l1Cur_pick_fok tab_nil)
noncomputable def spec_l1Cur_among_LS0 (F : Nat) : LT := []
theorem spec_l1Cur_among_lsok0 (F : Nat) : LoopsOK Try.prog (spec_l1Cur_among_LS0 F) (bodyOf Try.f31) := loopsOK_nil
theorem spec_l1Cur_among_run (F : Nat) (list3 : List Int) (c4 : List Int) (c5 : Int) (c6 : Int) : runS tt (spec_l1Cur_among_tab F) (spec_l1Cur_among_LS0 F) [] [] Try.f31 (bodyOf Try.f31) 70 [(.ptr 0 0 0 3), (.ri .i64 list3)] [(.var 3 (.rv [(.ri .u8 c4), (.int .i64 c5), (.int .u64 c6)]))] = spec_l1Cur_among_c _ list3 c4 c5 c6 (fun r => some ⟨(.int .i64 r.1), [(.var 3 (.rv [(.ri .u8 c4), (.int .i64 r.2.1), (.int .u64 r.2.2)]))], []⟩) := by kernel_rfl
def spec_l1Cur_among_ent (F : Nat) : Ent := ⟨[], .loud, fun args mem => match args, mem with
  | [(.ptr 0 0 0 3), (.ri .i64 list3)], [(.var 3 (.rv [(.ri .u8 c4), (.int .i64 c5), (.int .u64 c6)]))] => some ((spec_l1Cur_among_p list3 c4 c5 c6).isSome, ⟨(.int .i64 ((spec_l1Cur_among_p list3 c4 c5 c6).getD default).1), [(.var 3 (.rv [(.ri .u8 c4), (.int .i64 ((spec_l1Cur_among_p list3 c4 c5 c6).getD default).2.1), (.int .u64 ((spec_l1Cur_among_p list3 c4 c5 c6).getD default).2.2)]))], []⟩)
  | _, _ => none⟩
theorem spec_l1Cur_among_fok : FunOK Try.prog 31 := funOK Try.func31 (by kernel_rfl) rfl
theorem spec_l1Cur_among_meets (F : Nat) : Meets Try.prog 31 (spec_l1Cur_among_ent F) := by
  refine meets_of_runS mixed ttok deep (spec_l1Cur_among_tabok F) Try.func31 (body_some rfl) (spec_l1Cur_among_lsok0 F) fun args mem hfit ret h => ?_
  clear hfit
  simp only [spec_l1Cur_among_ent] at h
  split at h
  · rename_i list3 c4 c5 c6
    simp only [Option.some.injEq, Prod.mk.injEq] at h
    obtain ⟨hc, rfl⟩ := h
    exact ⟨[], [], 70, _, (spec_l1Cur_among_run F list3 c4 c5 c6).trans ((spec_l1Cur_among_cp _ list3 c4 c5 c6 _).trans (bind_use hc _)), rfl, rfl, rfl⟩
  · cases h

/-! (*loop.example/g01194/spec.l1Cur).tile -/
noncomputable def spec_l1Cur_tile_tab (F : Nat) : Tab := [(31, (spec_l1Cur_among_ent F))]
theorem spec_l1Cur_tile_tabok (F : Nat) : TabOK Try.prog (spec_l1Cur_tile_tab F) := (tab_cons (spec_l1Cur_among_meets F) spec_l1Cur_among_fok tab_nil)
noncomputable def spec_l1Cur_tile_LS0 (F : Nat) : LT := []
theorem spec_l1Cur_tile_lsok0 (F : Nat) : LoopsOK Try.prog (spec_l1Cur_tile_LS0 F) (bodyOf Try.f46) := loopsOK_nil
theorem spec_l1Cur_tile_run (F : Nat) (c3 : List Int) (c4 : Int) (c5 : Int) : runS tt (spec_l1Cur_tile_tab F) (spec_l1Cur_tile_LS0 F) [] [] Try.f46 (bodyOf Try.f46) 70 [(.ptr 0 0 0 3)] [(.var 3 (.rv [(.ri .u8 c3), (.int .i64 c4), (.int .u64 c5)]))] = spec_l1Cur_tile_c _ c3 c4 c5 (fun r => some ⟨(.int .i64 r.1), [(.var 3 (.rv [(.ri .u8 c3), (.int .i64 r.2.1), (.int .u64 r.2.2)]))], []⟩) := by kernel_rfl
def spec_l1Cur_tile_ent (F : Nat) : Ent := ⟨[], .loud, fun args mem => match args, mem with
  | [(.ptr 0 0 0 3)], [(.var 3 (.rv [(.ri .u8 c3), (.int .i64 c4), (.int .u64 c5)]))] => some ((spec_l1Cur_tile_p c3 c4 c5).isSome, ⟨(.int .i64 ((spec_l1Cur_tile_p c3 c4 c5).getD default).1), [(.var 3 (.rv [(.ri .u8 c3), (.int .i64 ((spec_l1Cur_tile_p c3 c4 c5).getD default).2.1), (.int .u64 ((spec_l1Cur_tile_p c3 c4 c5).getD default).2.2)]))], []⟩)
  | _, _ => none⟩
theorem spec_l1Cur_tile_fok : FunOK Try.prog 46 := funOK Try.func46 (by kernel_rfl) rfl
theorem spec_l1Cur_tile_meets (F : Nat) : Meets Try.prog 46 (spec_l1Cur_tile_ent F) := by
  refine meets_of_runS mixed ttok deep (spec_l1Cur_tile_tabok F) Try.func46 (body_some rfl) (spec_l1Cur_tile_lsok0 F) fun args mem hfit ret h => ?_
  clear hfit
  simp only [spec_l1Cur_tile_ent] at h
  split at h
  · rename_i c3 c4 c5
    simp only [Option.some.injEq, Prod.mk.injEq] at h
    obtain ⟨hc, rfl⟩ := h
    exact ⟨[], [], 70, _, (spec_l1Cur_tile_run F c3 c4 c5).trans ((spec_l1Cur_tile_cp _ c3 c4 c5 _).trans (bind_use hc _)), rfl, rfl, rfl⟩
  · cases h

/-! (*loop.example/g01194/spec.l1Cur).board -/
noncomputable def spec_l1Cur_board_tab (F : Nat) : Tab := [(29, (spec_l1Cur_one_ent F)), (46, (spec_l1Cur_tile_ent F)), (30, (spec_l1Cur_pick_ent F)), (31, (spec_l1Cur_among_ent F))]
theorem spec_l1Cur_board_tabok (F : Nat) : TabOK Try.prog (spec_l1Cur_board_tab F) := (tab_cons (spec_l1Cur_one_meets F) spec_l1Cur_one_fok (tab_cons (spec_l1Cur_tile_meets F) spec_l1Cur_tile_fok (tab_cons (spec_l1Cur_pick_meets F) spec_l1Cur_pick_fok (tab_cons (spec_l1Cur_among_meets F) spec_l1Cur_among_fok tab_nil))))
noncomputable def spec_l1Cur_board_LS0 (F : Nat) : LT := []
theorem spec_l1Cur_board_lsok0 (F : Nat) : LoopsOK Try.prog (spec_l1Cur_board_LS0 F) (bodyOf Try.f28) := loopsOK_nil
theorem spec_l1Cur_board_keys : keysOK (bodyOf Try.f28) = true := by kernel_rfl
def spec_l1Cur_board_st6 (few9 : Bool) (full10 : Bool) (r11 : Int) (c13 : List Int) (k12 : Int) (c14 : Int) (c15 : Int) (b17 : List Int) : St := ⟨expand 110 0 [0, 2, 3, 4, 5, 6, 7] [(.ptr 0 0 0 3), (.ptr 1 0 0 16), (.ptr 2 0 0 16), (.bool few9), (.bool full10), (.int .i64 r11), (.int .i64 k12)], [(.var 3 (.rv [(.ri .u8 c13), (.int .i64 c14), (.int .u64 c15)])), (.var 16 (.ri .i64 [(0 : Int), (0 : Int), (0 : Int), (0 : Int), (0 : Int), (0 : Int), (0 : Int), (0 : Int), (0 : Int), (0 : Int), (0 : Int), (0 : Int), (0 : Int), (0 : Int), (0 : Int), (0 : Int)])), (.var 16 (.ri .i64 b17))], 1, []⟩
def spec_l1Cur_board_o6 (few9 : Bool) (full10 : Bool) (r11 : Int) (c13 : List Int) (x : Int × Int × List Int) : GT := (.out (.exit 2 ⟨expand 110 0 [0, 2, 3, 4, 5, 6] [(.ptr 0 0 0 3), (.ptr 1 0 0 16), (.ptr 2 0 0 16), (.bool few9), (.bool full10), (.int .i64 r11)], [(.var 3 (.rv [(.ri .u8 c13), (.int .i64 x.1), (.int .u64 x.2.1)])), (.var 16 (.ri .i64 [(0 : Int), (0 : Int), (0 : Int), (0 : Int), (0 : Int), (0 : Int), (0 : Int), (0 : Int), (0 : Int), (0 : Int), (0 : Int), (0 : Int), (0 : Int), (0 : Int), (0 : Int), (0 : Int)])), (.var 16 (.ri .i64 x.2.2))], 1, []⟩))
def spec_l1Cur_board_ls6 (F : Nat) : LoopS := ⟨110, [0, 2, 3, 4, 5, 6, 7], [], [0, 2, 3, 4, 5, 6], [], [2], [], [], fun vals mem np killed => match vals, mem, np, killed with
  | [(.ptr 0 0 0 3), (.ptr 1 0 0 16), (.ptr 2 0 0 16), (.bool few9), (.bool full10), (.int .i64 r11), (.int .i64 k12)], [(.var 3 (.rv [(.ri .u8 c13), (.int .i64 c14), (.int .u64 c15)])), (.var 16 (.ri .i64 q_t216)), (.var 16 (.ri .i64 b17))], 1, [] => .br ((q_t216 == ([(0 : Int), (0 : Int), (0 : Int), (0 : Int), (0 : Int), (0 : Int), (0 : Int), (0 : Int), (0 : Int), (0 : Int), (0 : Int), (0 : Int), (0 : Int), (0 : Int), (0 : Int), (0 : Int)] : List Int)) && (spec_l1Cur_board_l6 F few9 full10 r11 c13 k12 c14 c15 b17).isSome) (spec_l1Cur_board_o6 few9 full10 r11 c13 ((spec_l1Cur_board_l6 F few9 full10 r11 c13 k12 c14 c15 b17).getD default)) .fail
  | _, _, _, _ => .fail⟩
theorem spec_l1Cur_board_step6 (F : Nat) (few9 : Bool) (full10 : Bool) (r11 : Int) (c13 : List Int) (k12 : Int) (c14 : Int) (c15 : Int) (b17 : List Int) {R : Type} (k : Out → Option R) : stepS tt (spec_l1Cur_board_tab F) (spec_l1Cur_board_LS0 F) 70 (spec_l1Cur_board_ls6 F) (loopAt 6 (bodyOf Try.f28)) (spec_l1Cur_board_st6 few9 full10 r11 c13 k12 c14 c15 b17) k = spec_l1Cur_board_s6 F few9 full10 r11 c13 R (k12, c14, c15, b17) (fun s => k (.norm (spec_l1Cur_board_st6 few9 full10 r11 c13 s.1 s.2.1 s.2.2.1 s.2.2.2))) (fun x => (spec_l1Cur_board_o6 few9 full10 r11 c13 x).run k) := by kernel_rfl
theorem spec_l1Cur_board_iter6 (F : Nat) (few9 : Bool) (full10 : Bool) (r11 : Int) (c13 : List Int) {R : Type} (k : Out → Option R) : ∀ (n : Nat) (k12 : Int) (c14 : Int) (c15 : Int) (b17 : List Int), iterS tt (spec_l1Cur_board_tab F) (spec_l1Cur_board_LS0 F) 70 (spec_l1Cur_board_ls6 F) (loopAt 6 (bodyOf Try.f28)) n (spec_l1Cur_board_st6 few9 full10 r11 c13 k12 c14 c15 b17) k = loopC (spec_l1Cur_board_s6 F few9 full10 r11 c13) n (k12, c14, c15, b17) (fun x => (spec_l1Cur_board_o6 few9 full10 r11 c13 x).run k)
  | 0, k12, c14, c15, b17 => rfl
  | n + 1, k12, c14, c15, b17 => (iterS_succ tt (spec_l1Cur_board_tab F) (spec_l1Cur_board_LS0 F) 70 (spec_l1Cur_board_ls6 F) (loopAt 6 (bodyOf Try.f28)) n (spec_l1Cur_board_st6 few9 full10 r11 c13 k12 c14 c15 b17) k).trans ((spec_l1Cur_board_step6 F few9 full10 r11 c13 k12 c14 c15 b17 (nextK (iterS tt (spec_l1Cur_board_tab F) (spec_l1Cur_board_LS0 F) 70 (spec_l1Cur_board_ls6 F) (loopAt 6 (bodyOf Try.f28)) n) k)).trans (congrArg (fun kn => spec_l1Cur_board_s6 F few9 full10 r11 c13 R (k12, c14, c15, b17) kn _) (funext (fun ⟨k12, c14, c15, b17⟩ => spec_l1Cur_board_iter6 F few9 full10 r11 c13 k n k12 c14 c15 b17))))
theorem spec_l1Cur_board_lok6 (F : Nat) : LoopOK Try.prog (loopAt 6 (bodyOf Try.f28)) (spec_l1Cur_board_ls6 F) := by
  refine loopOK_of mixed ttok deep (spec_l1Cur_board_tabok F) (loopsOK_at (spec_l1Cur_board_lsok0 F) 6) (fuel := 70) fun R vals mem np killed k x h => ?_
  simp only [spec_l1Cur_board_ls6] at h
  split at h
  · rename_i few9 full10 r11 k12 c13 c14 c15 q_t216 b17
    simp only [GT.run] at h
    have hc := (cond_noneL h).1
    replace h := (cond_noneL h).2
    have hg := (and_split hc).1
    replace hc := (and_split hc).2
    obtain rfl := beq_li hg
    refine ⟨F, (spec_l1Cur_board_iter6 F few9 full10 r11 c13 k F k12 c14 c15 b17).trans ((loopC_use (spec_l1Cur_board_s6_nat F few9 full10 r11 c13) hc _).trans h)⟩
  · simp only [GT.run] at h
    cases h
noncomputable def spec_l1Cur_board_LS1 (F : Nat) : LT := (6, spec_l1Cur_board_ls6 F) :: spec_l1Cur_board_LS0 F
theorem spec_l1Cur_board_lsok1 (F : Nat) : LoopsOK Try.prog (spec_l1Cur_board_LS1 F) (bodyOf Try.f28) := loopsOK_cons spec_l1Cur_board_keys (spec_l1Cur_board_lok6 F) (spec_l1Cur_board_lsok0 F)
def spec_l1Cur_board_st3 (few9 : Bool) (full10 : Bool) (c12 : List Int) (r11 : Int) (c13 : Int) (c14 : Int) (b16 : List Int) : St := ⟨expand 110 0 [0, 2, 3, 4, 5, 6] [(.ptr 0 0 0 3), (.ptr 1 0 0 16), (.ptr 2 0 0 16), (.bool few9), (.bool full10), (.int .i64 r11)], [(.var 3 (.rv [(.ri .u8 c12), (.int .i64 c13), (.int .u64 c14)])), (.var 16 (.ri .i64 [(0 : Int), (0 : Int), (0 : Int), (0 : Int), (0 : Int), (0 : Int), (0 : Int), (0 : Int), (0 : Int), (0 : Int), (0 : Int), (0 : Int), (0 : Int), (0 : Int), (0 : Int), (0 : Int)])), (.var 16 (.ri .i64 b16))], 1, []⟩
def spec_l1Cur_board_o3 (few9 : Bool) (full10 : Bool) (c12 : List Int) (x : Int × Int × List Int) : GT := (.out (.exit 0 ⟨expand 110 0 [0, 2, 3] [(.ptr 0 0 0 3), (.ptr 1 0 0 16), (.ptr 2 0 0 16)], [(.var 3 (.rv [(.ri .u8 c12), (.int .i64 x.1), (.int .u64 x.2.1)])), (.var 16 (.ri .i64 [(0 : Int), (0 : Int), (0 : Int), (0 : Int), (0 : Int), (0 : Int), (0 : Int), (0 : Int), (0 : Int), (0 : Int), (0 : Int), (0 : Int), (0 : Int), (0 : Int), (0 : Int), (0 : Int)])), (.var 16 (.ri .i64 x.2.2))], 1, []⟩))
def spec_l1Cur_board_ls3 (F : Nat) : LoopS := ⟨110, [0, 2, 3, 4, 5, 6], [], [0, 2, 3], [], [2], [], [], fun vals mem np killed => match vals, mem, np, killed with
  | [(.ptr 0 0 0 3), (.ptr 1 0 0 16), (.ptr 2 0 0 16), (.bool few9), (.bool full10), (.int .i64 r11)], [(.var 3 (.rv [(.ri .u8 c12), (.int .i64 c13), (.int .u64 c14)])), (.var 16 (.ri .i64 q_t215)), (.var 16 (.ri .i64 b16))], 1, [] => .br ((q_t215 == ([(0 : Int), (0 : Int), (0 : Int), (0 : Int), (0 : Int), (0 : Int), (0 : Int), (0 : Int), (0 : Int), (0 : Int), (0 : Int), (0 : Int), (0 : Int), (0 : Int), (0 : Int), (0 : Int)] : List Int)) && (spec_l1Cur_board_l3 F few9 full10 c12 r11 c13 c14 b16).isSome) (spec_l1Cur_board_o3 few9 full10 c12 ((spec_l1Cur_board_l3 F few9 full10 c12 r11 c13 c14 b16).getD default)) .fail
  | _, _, _, _ => .fail⟩
theorem spec_l1Cur_board_step3 (F : Nat) (few9 : Bool) (full10 : Bool) (c12 : List Int) (r11 : Int) (c13 : Int) (c14 : Int) (b16 : List Int) {R : Type} (k : Out → Option R) : stepS tt (spec_l1Cur_board_tab F) (spec_l1Cur_board_LS1 F) 70 (spec_l1Cur_board_ls3 F) (loopAt 3 (bodyOf Try.f28)) (spec_l1Cur_board_st3 few9 full10 c12 r11 c13 c14 b16) k = spec_l1Cur_board_s3 F few9 full10 c12 R (r11, c13, c14, b16) (fun s => k (.norm (spec_l1Cur_board_st3 few9 full10 c12 s.1 s.2.1 s.2.2.1 s.2.2.2))) (fun x => (spec_l1Cur_board_o3 few9 full10 c12 x).run k) := by kernel_rfl
theorem spec_l1Cur_board_iter3 (F : Nat) (few9 : Bool) (full10 : Bool) (c12 : List Int) {R : Type} (k : Out → Option R) : ∀ (n : Nat) (r11 : Int) (c13 : Int) (c14 : Int) (b16 : List Int), iterS tt (spec_l1Cur_board_tab F) (spec_l1Cur_board_LS1 F) 70 (spec_l1Cur_board_ls3 F) (loopAt 3 (bodyOf Try.f28)) n (spec_l1Cur_board_st3 few9 full10 c12 r11 c13 c14 b16) k = loopC (spec_l1Cur_board_s3 F few9 full10 c12) n (r11, c13, c14, b16) (fun x => (spec_l1Cur_board_o3 few9 full10 c12 x).run k)
  | 0, r11, c13, c14, b16 => rfl
  | n + 1, r11, c13, c14, b16 => (iterS_succ tt (spec_l1Cur_board_tab F) (spec_l1Cur_board_LS1 F) 70 (spec_l1Cur_board_ls3 F) (loopAt 3 (bodyOf Try.f28)) n (spec_l1Cur_board_st3 few9 full10 c12 r11 c13 c14 b16) k).trans ((spec_l1Cur_board_step3 F few9 full10 c12 r11 c13 c14 b16 (nextK (iterS tt (spec_l1Cur_board_tab F) (spec_l1Cur_board_LS1 F) 70 (spec_l1Cur_board_ls3 F) (loopAt 3 (bodyOf Try.f28)) n) k)).trans (congrArg (fun kn => spec_l1Cur_board_s3 F few9 full10 c12 R (r11, c13, c14, b16) kn _) (funext (fun ⟨r11, c13, c14, b16⟩ => spec_l1Cur_board_iter3 F few9 full10 c12 k n r11 c13 c14 b16))))
theorem spec_l1Cur_board_lok3 (F : Nat) : LoopOK Try.prog (loopAt 3 (bodyOf Try.f28)) (spec_l1Cur_board_ls3 F) := by
  refine loopOK_of mixed ttok deep (spec_l1Cur_board_tabok F) (loopsOK_at (spec_l1Cur_board_lsok1 F) 3) (fuel := 70) fun R vals mem np killed k x h => ?_
  simp only [spec_l1Cur_board_ls3] at h
  split at h
  · rename_i few9 full10 r11 c12 c13 c14 q_t215 b16
    simp only [GT.run] at h
    have hc := (cond_noneL h).1
    replace h := (cond_noneL h).2
    have hg := (and_split hc).1
    replace hc := (and_split hc).2
    obtain rfl := beq_li hg
    refine ⟨F, (spec_l1Cur_board_iter3 F few9 full10 c12 k F r11 c13 c14 b16).trans ((loopC_use (spec_l1Cur_board_s3_nat F few9 full10 c12) hc _).trans h)⟩
  · simp only [GT.run] at h
    cases h
noncomputable def spec_l1Cur_board_LS2 (F : Nat) : LT := (3, spec_l1Cur_board_ls3 F) :: spec_l1Cur_board_LS1 F
theorem spec_l1Cur_board_lsok2 (F : Nat) : LoopsOK Try.prog (spec_l1Cur_board_LS2 F) (bodyOf Try.f28) := loopsOK_cons spec_l1Cur_board_keys (spec_l1Cur_board_lok3 F) (spec_l1Cur_board_lsok1 F)
def spec_l1Cur_board_st29 (r9 : Int) (c11 : List Int) (k10 : Int) (c12 : Int) (c13 : Int) (b15 : List Int) : St := ⟨expand 110 0 [0, 2, 3, 11, 12] [(.ptr 0 0 0 3), (.ptr 1 0 0 16), (.ptr 2 0 0 16), (.int .i64 r9), (.int .i64 k10)], [(.var 3 (.rv [(.ri .u8 c11), (.int .i64 c12), (.int .u64 c13)])), (.var 16 (.ri .i64 [(0 : Int), (0 : Int), (0 : Int), (0 : Int), (0 : Int), (0 : Int), (0 : Int), (0 : Int), (0 : Int), (0 : Int), (0 : Int), (0 : Int), (0 : Int), (0 : Int), (0 : Int), (0 : Int)])), (.var 16 (.ri .i64 b15))], 1, []⟩
def spec_l1Cur_board_o29 (r9 : Int) (c11 : List Int) (x : Int × Int × List Int) : GT := (.out (.exit 7 ⟨expand 110 0 [0, 2, 3, 11] [(.ptr 0 0 0 3), (.ptr 1 0 0 16), (.ptr 2 0 0 16), (.int .i64 r9)], [(.var 3 (.rv [(.ri .u8 c11), (.int .i64 x.1), (.int .u64 x.2.1)])), (.var 16 (.ri .i64 [(0 : Int), (0 : Int), (0 : Int), (0 : Int), (0 : Int), (0 : Int), (0 : Int), (0 : Int), (0 : Int), (0 : Int), (0 : Int), (0 : Int), (0 : Int), (0 : Int), (0 : Int), (0 : Int)])), (.var 16 (.ri .i64 x.2.2))], 1, []⟩))
def spec_l1Cur_board_ls29 (F : Nat) : LoopS := ⟨110, [0, 2, 3, 11, 12], [], [0, 2, 3, 11], [], [2], [], [], fun vals mem np killed => match vals, mem, np, killed with
  | [(.ptr 0 0 0 3), (.ptr 1 0 0 16), (.ptr 2 0 0 16), (.int .i64 r9), (.int .i64 k10)], [(.var 3 (.rv [(.ri .u8 c11), (.int .i64 c12), (.int .u64 c13)])), (.var 16 (.ri .i64 q_t214)), (.var 16 (.ri .i64 b15))], 1, [] => .br ((q_t214 == ([(0 : Int), (0 : Int), (0 : Int), (0 : Int), (0 : Int), (0 : Int), (0 : Int), (0 : Int), (0 : Int), (0 : Int), (0 : Int), (0 : Int), (0 : Int), (0 : Int), (0 : Int), (0 : Int)] : List Int)) && (spec_l1Cur_board_l29 F r9 c11 k10 c12 c13 b15).isSome) (spec_l1Cur_board_o29 r9 c11 ((spec_l1Cur_board_l29 F r9 c11 k10 c12 c13 b15).getD default)) .fail
  | _, _, _, _ => .fail⟩
theorem spec_l1Cur_board_step29 (F : Nat) (r9 : Int) (c11 : List Int) (k10 : Int) (c12 : Int) (c13 : Int) (b15 : List Int) {R : Type} (k : Out → Option R) : stepS tt (spec_l1Cur_board_tab F) (spec_l1Cur_board_LS2 F) 70 (spec_l1Cur_board_ls29 F) (loopAt 29 (bodyOf Try.f28)) (spec_l1Cur_board_st29 r9 c11 k10 c12 c13 b15) k = spec_l1Cur_board_s29 F r9 c11 R (k10, c12, c13, b15) (fun s => k (.norm (spec_l1Cur_board_st29 r9 c11 s.1 s.2.1 s.2.2.1 s.2.2.2))) (fun x => (spec_l1Cur_board_o29 r9 c11 x).run k) := by kernel_rfl
theorem spec_l1Cur_board_iter29 (F : Nat) (r9 : Int) (c11 : List Int) {R : Type} (k : Out → Option R) : ∀ (n : Nat) (k10 : Int) (c12 : Int) (c13 : Int) (b15 : List Int), iterS tt (spec_l1Cur_board_tab F) (spec_l1Cur_board_LS2 F) 70 (spec_l1Cur_board_ls29 F) (loopAt 29 (bodyOf Try.f28)) n (spec_l1Cur_board_st29 r9 c11 k10 c12 c13 b15) k = loopC (spec_l1Cur_board_s29 F r9 c11) n (k10, c12, c13, b15) (fun x => (spec_l1Cur_board_o29 r9 c11 x).run k)
  | 0, k10, c12, c13, b15 => rfl
  | n + 1, k10, c12, c13, b15 => (iterS_succ tt (spec_l1Cur_board_tab F) (spec_l1Cur_board_LS2 F) 70 (spec_l1Cur_board_ls29 F) (loopAt 29 (bodyOf Try.f28)) n (spec_l1Cur_board_st29 r9 c11 k10 c12 c13 b15) k).trans ((spec_l1Cur_board_step29 F r9 c11 k10 c12 c13 b15 (nextK (iterS tt (spec_l1Cur_board_tab F) (spec_l1Cur_board_LS2 F) 70 (spec_l1Cur_board_ls29 F) (loopAt 29 (bodyOf Try.f28)) n) k)).trans (congrArg (fun kn => spec_l1Cur_board_s29 F r9 c11 R (k10, c12, c13, b15) kn _) (funext (fun ⟨k10, c12, c13, b15⟩ => spec_l1Cur_board_iter29 F r9 c11 k n k10 c12 c13 b15))))
theorem spec_l1Cur_board_lok29 (F : Nat) : LoopOK Try.prog (loopAt 29 (bodyOf Try.f28)) (spec_l1Cur_board_ls29 F) := by
  refine loopOK_of mixed ttok deep (spec_l1Cur_board_tabok F) (loopsOK_at (spec_l1Cur_board_lsok2 F) 29) (fuel := 70) fun R vals mem np killed k x h => ?_
  simp only [spec_l1Cur_board_ls29] at h
  split at h
  · rename_i r9 k10 c11 c12 c13 q_t214 b15
    simp only [GT.run] at h
    have hc := (cond_noneL h).1
    replace h := (cond_noneL h).2
    have hg := (and_split hc).1
    replace hc := (and_split hc).2
    obtain rfl := beq_li hg
    refine ⟨F, (spec_l1Cur_board_iter29 F r9 c11 k F k10 c12 c13 b15).trans ((loopC_use (spec_l1Cur_board_s29_nat F r9 c11) hc _).trans h)⟩
  · simp only [GT.run] at h
    cases h
noncomputable def spec_l1Cur_board_LS3 (F : Nat) : LT := (29, spec_l1Cur_board_ls29 F) :: spec_l1Cur_board_LS2 F
theorem spec_l1Cur_board_lsok3 (F : Nat) : LoopsOK Try.prog (spec_l1Cur_board_LS3 F) (bodyOf Try.f28) := loopsOK_cons spec_l1Cur_board_keys (spec_l1Cur_board_lok29 F) (spec_l1Cur_board_lsok2 F)
def spec_l1Cur_board_st26 (c10 : List Int) (r9 : Int) (c11 : Int) (c12 : Int) (b14 : List Int) : St := ⟨expand 110 0 [0, 2, 3, 11] [(.ptr 0 0 0 3), (.ptr 1 0 0 16), (.ptr 2 0 0 16), (.int .i64 r9)], [(.var 3 (.rv [(.ri .u8 c10), (.int .i64 c11), (.int .u64 c12)])), (.var 16 (.ri .i64 [(0 : Int), (0 : Int), (0 : Int), (0 : Int), (0 : Int), (0 : Int), (0 : Int), (0 : Int), (0 : Int), (0 : Int), (0 : Int), (0 : Int), (0 : Int), (0 : Int), (0 : Int), (0 : Int)])), (.var 16 (.ri .i64 b14))], 1, []⟩
def spec_l1Cur_board_o26 (c10 : List Int) (x : Int × Int × List Int) : GT := (.out (.exit 5 ⟨expand 110 0 [2, 3] [(.ptr 1 0 0 16), (.ptr 2 0 0 16)], [(.var 3 (.rv [(.ri .u8 c10), (.int .i64 x.1), (.int .u64 x.2.1)])), (.var 16 (.ri .i64 [(0 : Int), (0 : Int), (0 : Int), (0 : Int), (0 : Int), (0 : Int), (0 : Int), (0 : Int), (0 : Int), (0 : Int), (0 : Int), (0 : Int), (0 : Int), (0 : Int), (0 : Int), (0 : Int)])), (.var 16 (.ri .i64 x.2.2))], 1, []⟩))
def spec_l1Cur_board_ls26 (F : Nat) : LoopS := ⟨110, [0, 2, 3, 11], [], [2, 3], [], [2], [], [], fun vals mem np killed => match vals, mem, np, killed with
  | [(.ptr 0 0 0 3), (.ptr 1 0 0 16), (.ptr 2 0 0 16), (.int .i64 r9)], [(.var 3 (.rv [(.ri .u8 c10), (.int .i64 c11), (.int .u64 c12)])), (.var 16 (.ri .i64 q_t213)), (.var 16 (.ri .i64 b14))], 1, [] => .br ((q_t213 == ([(0 : Int), (0 : Int), (0 : Int), (0 : Int), (0 : Int), (0 : Int), (0 : Int), (0 : Int), (0 : Int), (0 : Int), (0 : Int), (0 : Int), (0 : Int), (0 : Int), (0 : Int), (0 : Int)] : List Int)) && (spec_l1Cur_board_l26 F c10 r9 c11 c12 b14).isSome) (spec_l1Cur_board_o26 c10 ((spec_l1Cur_board_l26 F c10 r9 c11 c12 b14).getD default)) .fail
  | _, _, _, _ => .fail⟩
theorem spec_l1Cur_board_step26 (F : Nat) (c10 : List Int) (r9 : Int) (c11 : Int) (c12 : Int) (b14 : List Int) {R : Type} (k : Out → Option R) : stepS tt (spec_l1Cur_board_tab F) (spec_l1Cur_board_LS3 F) 70 (spec_l1Cur_board_ls26 F) (loopAt 26 (bodyOf Try.f28)) (spec_l1Cur_board_st26 c10 r9 c11 c12 b14) k = spec_l1Cur_board_s26 F c10 R (r9, c11, c12, b14) (fun s => k (.norm (spec_l1Cur_board_st26 c10 s.1 s.2.1 s.2.2.1 s.2.2.2))) (fun x => (spec_l1Cur_board_o26 c10 x).run k) := by kernel_rfl
theorem spec_l1Cur_board_iter26 (F : Nat) (c10 : List Int) {R : Type} (k : Out → Option R) : ∀ (n : Nat) (r9 : Int) (c11 : Int) (c12 : Int) (b14 : List Int), iterS tt (spec_l1Cur_board_tab F) (spec_l1Cur_board_LS3 F) 70 (spec_l1Cur_board_ls26 F) (loopAt 26 (bodyOf Try.f28)) n (spec_l1Cur_board_st26 c10 r9 c11 c12 b14) k = loopC (spec_l1Cur_board_s26 F c10) n (r9, c11, c12, b14) (fun x => (spec_l1Cur_board_o26 c10 x).run k)
  | 0, r9, c11, c12, b14 => rfl
  | n + 1, r9, c11, c12, b14 => (iterS_succ tt (spec_l1Cur_board_tab F) (spec_l1Cur_board_LS3 F) 70 (spec_l1Cur_board_ls26 F) (loopAt 26 (bodyOf Try.f28)) n (spec_l1Cur_board_st26 c10 r9 c11 c12 b14) k).trans ((spec_l1Cur_board_step26 F c10 r9 c11 c12 b14 (nextK (iterS tt (spec_l1Cur_board_tab F) (spec_l1Cur_board_LS3 F) 70 (spec_l1Cur_board_ls26 F) (loopAt 26 (bodyOf Try.f28)) n) k)).trans (congrArg (fun kn => spec_l1Cur_board_s26 F c10 R (r9, c11, c12, b14) kn _) (funext (fun ⟨r9, c11, c12, b14⟩ => spec_l1Cur_board_iter26 F c10 k n r9 c11 c12 b14))))
theorem spec_l1Cur_board_lok26 (F : Nat) : LoopOK Try.prog (loopAt 26 (bodyOf Try.f28)) (spec_l1Cur_board_ls26 F) := by
  refine loopOK_of mixed ttok deep (spec_l1Cur_board_tabok F) (loopsOK_at (spec_l1Cur_board_lsok3 F) 26) (fuel := 70) fun R vals mem np killed k x h => ?_
  simp only [spec_l1Cur_board_ls26] at h
  split at h
  · rename_i r9 c10 c11 c12 q_t213 b14
    simp only [GT.run] at h
    have hc := (cond_noneL h).1
    replace h := (cond_noneL h).2
    have hg := (and_split hc).1
    replace hc := (and_split hc).2
    obtain rfl := beq_li hg
    refine ⟨F, (spec_l1Cur_board_iter26 F c10 k F r9 c11 c12 b14).trans ((loopC_use (spec_l1Cur_board_s26_nat F c10) hc _).trans h)⟩
  · simp only [GT.run] at h
    cases h
noncomputable def spec_l1Cur_board_LS4 (F : Nat) : LT := (26, spec_l1Cur_board_ls26 F) :: spec_l1Cur_board_LS3 F
theorem spec_l1Cur_board_lsok4 (F : Nat) : LoopsOK Try.prog (spec_l1Cur_board_LS4 F) (bodyOf Try.f28) := loopsOK_cons spec_l1Cur_board_keys (spec_l1Cur_board_lok26 F) (spec_l1Cur_board_lsok3 F)
theorem spec_l1Cur_board_run (F : Nat) (c3 : List Int) (c4 : Int) (c5 : Int) : runS tt (spec_l1Cur_board_tab F) (spec_l1Cur_board_LS4 F) [] [] Try.f28 (bodyOf Try.f28) 70 [(.ptr 0 0 0 3)] [(.var 3 (.rv [(.ri .u8 c3), (.int .i64 c4), (.int .u64 c5)]))] = spec_l1Cur_board_c _ F c3 c4 c5 (fun r => some ⟨(.ints 16 r.1), [(.var 3 (.rv [(.ri .u8 c3), (.int .i64 r.2.1), (.int .u64 r.2.2)]))], []⟩) := by kernel_rfl
def spec_l1Cur_board_ent (F : Nat) : Ent := ⟨[], .loud, fun args mem => match args, mem with
  | [(.ptr 0 0 0 3)], [(.var 3 (.rv [(.ri .u8 c3), (.int .i64 c4), (.int .u64 c5)]))] => some ((spec_l1Cur_board_p F c3 c4 c5).isSome, ⟨(.ints 16 ((spec_l1Cur_board_p F c3 c4 c5).getD default).1), [(.var 3 (.rv [(.ri .u8 c3), (.int .i64 ((spec_l1Cur_board_p F c3 c4 c5).getD default).2.1), (.int .u64 ((spec_l1Cur_board_p F c3 c4 c5).getD default).2.2)]))], []⟩)
  | _, _ => none⟩
theorem spec_l1Cur_board_fok : FunOK Try.prog 28 := funOK Try.func28 (by kernel_rfl) rfl
theorem spec_l1Cur_board_meets (F : Nat) : Meets Try.prog 28 (spec_l1Cur_board_ent F) := by
  refine meets_of_runS mixed ttok deep (spec_l1Cur_board_tabok F) Try.func28 (body_some rfl) (spec_l1Cur_board_lsok4 F) fun args mem hfit ret h => ?_
  clear hfit
  simp only [spec_l1Cur_board_ent] at h
  split at h
  · rename_i c3 c4 c5
    simp only [Option.some.injEq, Prod.mk.injEq] at h
    obtain ⟨hc, rfl⟩ := h
    exact ⟨[], [], 70, _, (spec_l1Cur_board_run F c3 c4 c5).trans ((spec_l1Cur_board_cp _ F c3 c4 c5 _).trans (bind_use hc _)), rfl, rfl, rfl⟩
  · cases h

/-! (*loop.example/g01194/spec.l1Cur).formed3 -/
noncomputable def spec_l1Cur_formed3_tab (F : Nat) : Tab := [(28, (spec_l1Cur_board_ent F)), (29, (spec_l1Cur_one_ent F)), (30, (spec_l1Cur_pick_ent F))]
theorem spec_l1Cur_formed3_tabok (F : Nat) : TabOK Try.prog (spec_l1Cur_formed3_tab F) := (tab_cons (spec_l1Cur_board_meets F) spec_l1Cur_board_fok (tab_cons (spec_l1Cur_one_meets F) spec_l1Cur_one_fok (tab_cons (spec_l1Cur_pick_meets F) spec_l1Cur_pick_fok tab_nil)))
noncomputable def spec_l1Cur_formed3_LS0 (F : Nat) : LT := []
theorem spec_l1Cur_formed3_lsok0 (F : Nat) : LoopsOK Try.prog (spec_l1Cur_formed3_LS0 F) (bodyOf Try.f15) := loopsOK_nil
theorem spec_l1Cur_formed3_keys : keysOK (bodyOf Try.f15) = true := by kernel_rfl
def spec_l1Cur_formed3_st8 (r9 : Int) (c11 : List Int) (k10 : Int) (c12 : Int) (c13 : Int) (b15 : List Int) : St := ⟨expand 113 0 [0, 2, 3, 4, 5] [(.ptr 0 0 0 3), (.ptr 1 0 0 16), (.ptr 2 0 0 16), (.int .i64 r9), (.int .i64 k10)], [(.var 3 (.rv [(.ri .u8 c11), (.int .i64 c12), (.int .u64 c13)])), (.var 16 (.ri .i64 [(0 : Int), (0 : Int), (0 : Int), (0 : Int), (0 : Int), (0 : Int), (0 : Int), (0 : Int), (0 : Int), (0 : Int), (0 : Int), (0 : Int), (0 : Int), (0 : Int), (0 : Int), (0 : Int)])), (.var 16 (.ri .i64 b15))], 1, []⟩
def spec_l1Cur_formed3_o8 (r9 : Int) (c11 : List Int) (x : Int × Int × List Int) : GT := (.out (.exit 2 ⟨expand 113 0 [0, 2, 3, 4] [(.ptr 0 0 0 3), (.ptr 1 0 0 16), (.ptr 2 0 0 16), (.int .i64 r9)], [(.var 3 (.rv [(.ri .u8 c11), (.int .i64 x.1), (.int .u64 x.2.1)])), (.var 16 (.ri .i64 [(0 : Int), (0 : Int), (0 : Int), (0 : Int), (0 : Int), (0 : Int), (0 : Int), (0 : Int), (0 : Int), (0 : Int), (0 : Int), (0 : Int), (0 : Int), (0 : Int), (0 : Int), (0 : Int)])), (.var 16 (.ri .i64 x.2.2))], 1, []⟩))
def spec_l1Cur_formed3_ls8 (F : Nat) : LoopS := ⟨113, [0, 2, 3, 4, 5], [], [0, 2, 3, 4], [], [2], [], [], fun vals mem np killed => match vals, mem, np, killed with
  | [(.ptr 0 0 0 3), (.ptr 1 0 0 16), (.ptr 2 0 0 16), (.int .i64 r9), (.int .i64 k10)], [(.var 3 (.rv [(.ri .u8 c11), (.int .i64 c12), (.int .u64 c13)])), (.var 16 (.ri .i64 q_t214)), (.var 16 (.ri .i64 b15))], 1, [] => .br ((q_t214 == ([(0 : Int), (0 : Int), (0 : Int), (0 : Int), (0 : Int), (0 : Int), (0 : Int), (0 : Int), (0 : Int), (0 : Int), (0 : Int), (0 : Int), (0 : Int), (0 : Int), (0 : Int), (0 : Int)] : List Int)) && (spec_l1Cur_formed3_l8 F r9 c11 k10 c12 c13 b15).isSome) (spec_l1Cur_formed3_o8 r9 c11 ((spec_l1Cur_formed3_l8 F r9 c11 k10 c12 c13 b15).getD default)) .fail
  | _, _, _, _ => .fail⟩
theorem spec_l1Cur_formed3_step8 (F : Nat) (r9 : Int) (c11 : List Int) (k10 : Int) (c12 : Int) (c13 : Int) (b15 : List Int) {R : Type} (k : Out → Option R) : stepS tt (spec_l1Cur_formed3_tab F) (spec_l1Cur_formed3_LS0 F) 70 (spec_l1Cur_formed3_ls8 F) (loopAt 8 (bodyOf Try.f15)) (spec_l1Cur_formed3_st8 r9 c11 k10 c12 c13 b15) k = spec_l1Cur_formed3_s8 F r9 c11 R (k10, c12, c13, b15) (fun s => k (.norm (spec_l1Cur_formed3_st8 r9 c11 s.1 s.2.1 s.2.2.1 s.2.2.2))) (fun x => (spec_l1Cur_formed3_o8 r9 c11 x).run k) := by kernel_rfl
theorem spec_l1Cur_formed3_iter8 (F : Nat) (r9 : Int) (c11 : List Int) {R : Type} (k : Out → Option R) : ∀ (n : Nat) (k10 : Int) (c12 : Int) (c13 : Int) (b15 : List Int), iterS tt (spec_l1Cur_formed3_tab F) (spec_l1Cur_formed3_LS0 F) 70 (spec_l1Cur_formed3_ls8 F) (loopAt 8 (bodyOf Try.f15)) n (spec_l1Cur_formed3_st8 r9 c11 k10 c12 c13 b15) k = loopC (spec_l1Cur_formed3_s8 F r9 c11) n (k10, c12, c13, b15) (fun x => (spec_l1Cur_formed3_o8 r9 c11 x).run k)
  | 0, k10, c12, c13, b15 => rfl
  | n + 1, k10, c12, c13, b15 => (iterS_succ tt (spec_l1Cur_formed3_tab F) (spec_l1Cur_formed3_LS0 F) 70 (spec_l1Cur_formed3_ls8 F) (loopAt 8 (bodyOf Try.f15)) n (spec_l1Cur_formed3_st8 r9 c11 k10 c12 c13 b15) k).trans ((spec_l1Cur_formed3_step8 F r9 c11 k10 c12 c13 b15 (nextK (iterS tt (spec_l1Cur_formed3_tab F) (spec_l1Cur_formed3_LS0 F) 70 (spec_l1Cur_formed3_ls8 F) (loopAt 8 (bodyOf Try.f15)) n) k)).trans (congrArg (fun kn => spec_l1Cur_formed3_s8 F r9 c11 R (k10, c12, c13, b15) kn _) (funext (fun ⟨k10, c12, c13, b15⟩ => spec_l1Cur_formed3_iter8 F r9 c11 k n k10 c12 c13 b15))))
theorem spec_l1Cur_formed3_lok8 (F : Nat) : LoopOK Try.prog (loopAt 8 (bodyOf Try.f15)) (spec_l1Cur_formed3_ls8 F) := by
  refine loopOK_of mixed ttok deep (spec_l1Cur_formed3_tabok F) (loopsOK_at (spec_l1Cur_formed3_lsok0 F) 8) (fuel := 70) fun R vals mem np killed k x h => ?_
  simp only [spec_l1Cur_formed3_ls8] at h
  split at h
  · rename_i r9 k10 c11 c12 c13 q_t214 b15
    simp only [GT.run] at h
    have hc := (cond_noneL h).1
    replace h := (cond_noneL h).2
    have hg := (and_split hc).1
    replace hc := (and_split hc).2
    obtain rfl := beq_li hg
    refine ⟨F, (spec_l1Cur_formed3_iter8 F r9 c11 k F k10 c12 c13 b15).trans ((loopC_use (spec_l1Cur_formed3_s8_nat F r9 c11) hc _).trans h)⟩
  · simp only [GT.run] at h
    cases h
noncomputable def spec_l1Cur_formed3_LS1 (F : Nat) : LT := (8, spec_l1Cur_formed3_ls8 F) :: spec_l1Cur_formed3_LS0 F
theorem spec_l1Cur_formed3_lsok1 (F : Nat) : LoopsOK Try.prog (spec_l1Cur_formed3_LS1 F) (bodyOf Try.f15) := loopsOK_cons spec_l1Cur_formed3_keys (spec_l1Cur_formed3_lok8 F) (spec_l1Cur_formed3_lsok0 F)
def spec_l1Cur_formed3_st5 (c10 : List Int) (r9 : Int) (c11 : Int) (c12 : Int) (b14 : List Int) : St := ⟨expand 113 0 [0, 2, 3, 4] [(.ptr 0 0 0 3), (.ptr 1 0 0 16), (.ptr 2 0 0 16), (.int .i64 r9)], [(.var 3 (.rv [(.ri .u8 c10), (.int .i64 c11), (.int .u64 c12)])), (.var 16 (.ri .i64 [(0 : Int), (0 : Int), (0 : Int), (0 : Int), (0 : Int), (0 : Int), (0 : Int), (0 : Int), (0 : Int), (0 : Int), (0 : Int), (0 : Int), (0 : Int), (0 : Int), (0 : Int), (0 : Int)])), (.var 16 (.ri .i64 b14))], 1, []⟩
def spec_l1Cur_formed3_o5 (c10 : List Int) (x : Int × Int × List Int) : GT := (.out (.exit 0 ⟨expand 113 0 [0, 2, 3] [(.ptr 0 0 0 3), (.ptr 1 0 0 16), (.ptr 2 0 0 16)], [(.var 3 (.rv [(.ri .u8 c10), (.int .i64 x.1), (.int .u64 x.2.1)])), (.var 16 (.ri .i64 [(0 : Int), (0 : Int), (0 : Int), (0 : Int), (0 : Int), (0 : Int), (0 : Int), (0 : Int), (0 : Int), (0 : Int), (0 : Int), (0 : Int), (0 : Int), (0 : Int), (0 : Int), (0 : Int)])), (.var 16 (.ri .i64 x.2.2))], 1, []⟩))
def spec_l1Cur_formed3_ls5 (F : Nat) : LoopS := ⟨113, [0, 2, 3, 4], [], [0, 2, 3], [], [2], [], [], fun vals mem np killed => match vals, mem, np, killed with
  | [(.ptr 0 0 0 3), (.ptr 1 0 0 16), (.ptr 2 0 0 16), (.int .i64 r9)], [(.var 3 (.rv [(.ri .u8 c10), (.int .i64 c11), (.int .u64 c12)])), (.var 16 (.ri .i64 q_t213)), (.var 16 (.ri .i64 b14))], 1, [] => .br ((q_t213 == ([(0 : Int), (0 : Int), (0 : Int), (0 : Int), (0 : Int), (0 : Int), (0 : Int), (0 : Int), (0 : Int), (0 : Int), (0 : Int), (0 : Int), (0 : Int), (0 : Int), (0 : Int), (0 : Int)] : List Int)) && (spec_l1Cur_formed3_l5 F c10 r9 c11 c12 b14).isSome) (spec_l1Cur_formed3_o5 c10 ((spec_l1Cur_formed3_l5 F c10 r9 c11 c12 b14).getD default)) .fail
  | _, _, _, _ => .fail⟩
theorem spec_l1Cur_formed3_step5 (F : Nat) (c10 : List Int) (r9 : Int) (c11 : Int) (c12 : Int) (b14 : List Int) {R : Type} (k : Out → Option R) : stepS tt (spec_l1Cur_formed3_tab F) (spec_l1Cur_formed3_LS1 F) 70 (spec_l1Cur_formed3_ls5 F) (loopAt 5 (bodyOf Try.f15)) (spec_l1Cur_formed3_st5 c10 r9 c11 c12 b14) k = spec_l1Cur_formed3_s5 F c10 R (r9, c11, c12, b14) (fun s => k (.norm (spec_l1Cur_formed3_st5 c10 s.1 s.2.1 s.2.2.1 s.2.2.2))) (fun x => (spec_l1Cur_formed3_o5 c10 x).run k) := by kernel_rfl
theorem spec_l1Cur_formed3_iter5 (F : Nat) (c10 : List Int) {R : Type} (k : Out → Option R) : ∀ (n : Nat) (r9 : Int) (c11 : Int) (c12 : Int) (b14 : List Int), iterS tt (spec_l1Cur_formed3_tab F) (spec_l1Cur_formed3_LS1 F) 70 (spec_l1Cur_formed3_ls5 F) (loopAt 5 (bodyOf Try.f15)) n (spec_l1Cur_formed3_st5 c10 r9 c11 c12 b14) k = loopC (spec_l1Cur_formed3_s5 F c10) n (r9, c11, c12, b14) (fun x => (spec_l1Cur_formed3_o5 c10 x).run k)
  | 0, r9, c11, c12, b14 => rfl
  | n + 1, r9, c11, c12, b14 => (iterS_succ tt (spec_l1Cur_formed3_tab F) (spec_l1Cur_formed3_LS1 F) 70 (spec_l1Cur_formed3_ls5 F) (loopAt 5 (bodyOf Try.f15)) n (spec_l1Cur_formed3_st5 c10 r9 c11 c12 b14) k).trans ((spec_l1Cur_formed3_step5 F c10 r9 c11 c12 b14 (nextK (iterS tt (spec_l1Cur_formed3_tab F) (spec_l1Cur_formed3_LS1 F) 70 (spec_l1Cur_formed3_ls5 F) (loopAt 5 (bodyOf Try.f15)) n) k)).trans (congrArg (fun kn => spec_l1Cur_formed3_s5 F c10 R (r9, c11, c12, b14) kn _) (funext (fun ⟨r9, c11, c12, b14⟩ => spec_l1Cur_formed3_iter5 F c10 k n r9 c11 c12 b14))))
theorem spec_l1Cur_formed3_lok5 (F : Nat) : LoopOK Try.prog (loopAt 5 (bodyOf Try.f15)) (spec_l1Cur_formed3_ls5 F) := by
  refine loopOK_of mixed ttok deep (spec_l1Cur_formed3_tabok F) (loopsOK_at (spec_l1Cur_formed3_lsok1 F) 5) (fuel := 70) fun R vals mem np killed k x h => ?_
  simp only [spec_l1Cur_formed3_ls5] at h
  split at h
  · rename_i r9 c10 c11 c12 q_t213 b14
    simp only [GT.run] at h
    have hc := (cond_noneL h).1
    replace h := (cond_noneL h).2
    have hg := (and_split hc).1
    replace hc := (and_split hc).2
    obtain rfl := beq_li hg
    refine ⟨F, (spec_l1Cur_formed3_iter5 F c10 k F r9 c11 c12 b14).trans ((loopC_use (spec_l1Cur_formed3_s5_nat F c10) hc _).trans h)⟩
  · simp only [GT.run] at h
    cases h
noncomputable def spec_l1Cur_formed3_LS2 (F : Nat) : LT := (5, spec_l1Cur_formed3_ls5 F) :: spec_l1Cur_formed3_LS1 F
theorem spec_l1Cur_formed3_lsok2 (F : Nat) : LoopsOK Try.prog (spec_l1Cur_formed3_LS2 F) (bodyOf Try.f15) := loopsOK_cons spec_l1Cur_formed3_keys (spec_l1Cur_formed3_lok5 F) (spec_l1Cur_formed3_lsok1 F)
def spec_l1Cur_formed3_st21 (m07 : List Int) (m08 : Int) (m09 : Int) (r6 : Int) (b11 : List Int) : St := ⟨expand 113 0 [2, 3, 6] [(.ptr 1 0 0 16), (.ptr 2 0 0 16), (.int .i64 r6)], [(.var 3 (.rv [(.ri .u8 m07), (.int .i64 m08), (.int .u64 m09)])), (.var 16 (.ri .i64 [(0 : Int), (0 : Int), (0 : Int), (0 : Int), (0 : Int), (0 : Int), (0 : Int), (0 : Int), (0 : Int), (0 : Int), (0 : Int), (0 : Int), (0 : Int), (0 : Int), (0 : Int), (0 : Int)])), (.var 16 (.ri .i64 b11))], 1, []⟩
def spec_l1Cur_formed3_o21 (m07 : List Int) (m08 : Int) (m09 : Int) (x : List Int) : GT := (.out (.exit 6 ⟨expand 113 0 [2, 3] [(.ptr 1 0 0 16), (.ptr 2 0 0 16)], [(.var 3 (.rv [(.ri .u8 m07), (.int .i64 m08), (.int .u64 m09)])), (.var 16 (.ri .i64 [(0 : Int), (0 : Int), (0 : Int), (0 : Int), (0 : Int), (0 : Int), (0 : Int), (0 : Int), (0 : Int), (0 : Int), (0 : Int), (0 : Int), (0 : Int), (0 : Int), (0 : Int), (0 : Int)])), (.var 16 (.ri .i64 x))], 1, []⟩))
def spec_l1Cur_formed3_ls21 (F : Nat) : LoopS := ⟨113, [2, 3, 6], [], [2, 3], [], [2], [], [], fun vals mem np killed => match vals, mem, np, killed with
  | [(.ptr 1 0 0 16), (.ptr 2 0 0 16), (.int .i64 r6)], [(.var 3 (.rv [(.ri .u8 m07), (.int .i64 m08), (.int .u64 m09)])), (.var 16 (.ri .i64 q_t210)), (.var 16 (.ri .i64 b11))], 1, [] => .br ((q_t210 == ([(0 : Int), (0 : Int), (0 : Int), (0 : Int), (0 : Int), (0 : Int), (0 : Int), (0 : Int), (0 : Int), (0 : Int), (0 : Int), (0 : Int), (0 : Int), (0 : Int), (0 : Int), (0 : Int)] : List Int)) && (spec_l1Cur_formed3_l21 F m07 m08 m09 r6 b11).isSome) (spec_l1Cur_formed3_o21 m07 m08 m09 ((spec_l1Cur_formed3_l21 F m07 m08 m09 r6 b11).getD default)) .fail
  | _, _, _, _ => .fail⟩
theorem spec_l1Cur_formed3_step21 (F : Nat) (m07 : List Int) (m08 : Int) (m09 : Int) (r6 : Int) (b11 : List Int) {R : Type} (k : Out → Option R) : stepS tt (spec_l1Cur_formed3_tab F) (spec_l1Cur_formed3_LS2 F) 70 (spec_l1Cur_formed3_ls21 F) (loopAt 21 (bodyOf Try.f15)) (spec_l1Cur_formed3_st21 m07 m08 m09 r6 b11) k = spec_l1Cur_formed3_s21 F m07 m08 m09 R (r6, b11) (fun s => k (.norm (spec_l1Cur_formed3_st21 m07 m08 m09 s.1 s.2))) (fun x => (spec_l1Cur_formed3_o21 m07 m08 m09 x).run k) := by kernel_rfl
theorem spec_l1Cur_formed3_iter21 (F : Nat) (m07 : List Int) (m08 : Int) (m09 : Int) {R : Type} (k : Out → Option R) : ∀ (n : Nat) (r6 : Int) (b11 : List Int), iterS tt (spec_l1Cur_formed3_tab F) (spec_l1Cur_formed3_LS2 F) 70 (spec_l1Cur_formed3_ls21 F) (loopAt 21 (bodyOf Try.f15)) n (spec_l1Cur_formed3_st21 m07 m08 m09 r6 b11) k = loopC (spec_l1Cur_formed3_s21 F m07 m08 m09) n (r6, b11) (fun x => (spec_l1Cur_formed3_o21 m07 m08 m09 x).run k)
  | 0, r6, b11 => rfl
  | n + 1, r6, b11 => (iterS_succ tt (spec_l1Cur_formed3_tab F) (spec_l1Cur_formed3_LS2 F) 70 (spec_l1Cur_formed3_ls21 F) (loopAt 21 (bodyOf Try.f15)) n (spec_l1Cur_formed3_st21 m07 m08 m09 r6 b11) k).trans ((spec_l1Cur_formed3_step21 F m07 m08 m09 r6 b11 (nextK (iterS tt (spec_l1Cur_formed3_tab F) (spec_l1Cur_formed3_LS2 F) 70 (spec_l1Cur_formed3_ls21 F) (loopAt 21 (bodyOf Try.f15)) n) k)).trans (congrArg (fun kn => spec_l1Cur_formed3_s21 F m07 m08 m09 R (r6, b11) kn _) (funext (fun ⟨r6, b11⟩ => spec_l1Cur_formed3_iter21 F m07 m08 m09 k n r6 b11))))
theorem spec_l1Cur_formed3_lok21 (F : Nat) : LoopOK Try.prog (loopAt 21 (bodyOf Try.f15)) (spec_l1Cur_formed3_ls21 F) := by
  refine loopOK_of mixed ttok deep (spec_l1Cur_formed3_tabok F) (loopsOK_at (spec_l1Cur_formed3_lsok2 F) 21) (fuel := 70) fun R vals mem np killed k x h => ?_
  simp only [spec_l1Cur_formed3_ls21] at h
  split at h
  · rename_i r6 m07 m08 m09 q_t210 b11
    simp only [GT.run] at h
    have hc := (cond_noneL h).1
    replace h := (cond_noneL h).2
    have hg := (and_split hc).1
    replace hc := (and_split hc).2
    obtain rfl := beq_li hg
    refine ⟨F, (spec_l1Cur_formed3_iter21 F m07 m08 m09 k F r6 b11).trans ((loopC_use (spec_l1Cur_formed3_s21_nat F m07 m08 m09) hc _).trans h)⟩
  · simp only [GT.run] at h
    cases h
noncomputable def spec_l1Cur_formed3_LS3 (F : Nat) : LT := (21, spec_l1Cur_formed3_ls21 F) :: spec_l1Cur_formed3_LS2 F
theorem spec_l1Cur_formed3_lsok3 (F : Nat) : LoopsOK Try.prog (spec_l1Cur_formed3_LS3 F) (bodyOf Try.f15) := loopsOK_cons spec_l1Cur_formed3_keys (spec_l1Cur_formed3_lok21 F) (spec_l1Cur_formed3_lsok2 F)
theorem spec_l1Cur_formed3_run (F : Nat) (c3 : List Int) (c4 : Int) (c5 : Int) : runS tt (spec_l1Cur_formed3_tab F) (spec_l1Cur_formed3_LS3 F) [] [] Try.f15 (bodyOf Try.f15) 70 [(.ptr 0 0 0 3)] [(.var 3 (.rv [(.ri .u8 c3), (.int .i64 c4), (.int .u64 c5)]))] = spec_l1Cur_formed3_c _ F c3 c4 c5 (fun r => some ⟨(.ints 16 r.1), [(.var 3 (.rv [(.ri .u8 c3), (.int .i64 r.2.1), (.int .u64 r.2.2)]))], []⟩) := by kernel_rfl
def spec_l1Cur_formed3_ent (F : Nat) : Ent := ⟨[], .loud, fun args mem => match args, mem with
  | [(.ptr 0 0 0 3)], [(.var 3 (.rv [(.ri .u8 c3), (.int .i64 c4), (.int .u64 c5)]))] => some ((spec_l1Cur_formed3_p F c3 c4 c5).isSome, ⟨(.ints 16 ((spec_l1Cur_formed3_p F c3 c4 c5).getD default).1), [(.var 3 (.rv [(.ri .u8 c3), (.int .i64 ((spec_l1Cur_formed3_p F c3 c4 c5).getD default).2.1), (.int .u64 ((spec_l1Cur_formed3_p F c3 c4 c5).getD default).2.2)]))], []⟩)
  | _, _ => none⟩
theorem spec_l1Cur_formed3_fok : FunOK Try.prog 15 := funOK Try.func15 (by kernel_rfl) rfl
theorem spec_l1Cur_formed3_meets (F : Nat) : Meets Try.prog 15 (spec_l1Cur_formed3_ent F) := by
  refine meets_of_runS mixed ttok deep (spec_l1Cur_formed3_tabok F) Try.func15 (body_some rfl) (spec_l1Cur_formed3_lsok3 F) fun args mem hfit ret h => ?_
  clear hfit
  simp only [spec_l1Cur_formed3_ent] at h
  split at h
  · rename_i c3 c4 c5
    simp only [Option.some.injEq, Prod.mk.injEq] at h
    obtain ⟨hc, rfl⟩ := h
    exact ⟨[], [], 70, _, (spec_l1Cur_formed3_run F c3 c4 c5).trans ((spec_l1Cur_formed3_cp _ F c3 c4 c5 _).trans (bind_use hc _)), rfl, rfl, rfl⟩
  · cases h

/-! (*loop.example/g01194/spec.l1Cur).side -/
noncomputable def spec_l1Cur_side_tab (F : Nat) : Tab := [(29, (spec_l1Cur_one_ent F)), (31, (spec_l1Cur_among_ent F)), (30, (spec_l1Cur_pick_ent F))]
theorem spec_l1Cur_side_tabok (F : Nat) : TabOK Try.prog (spec_l1Cur_side_tab F) := (tab_cons (spec_l1Cur_one_meets F) spec_l1Cur_one_fok (tab_cons (spec_l1Cur_among_meets F) spec_l1Cur_among_fok (tab_cons (spec_l1Cur_pick_meets F) spec_l1Cur_pick_fok tab_nil)))
noncomputable def spec_l1Cur_side_LS0 (F : Nat) : LT := []
theorem spec_l1Cur_side_lsok0 (F : Nat) : LoopsOK Try.prog (spec_l1Cur_side_LS0 F) (bodyOf Try.f16) := loopsOK_nil
theorem spec_l1Cur_side_run (F : Nat) (c3 : List Int) (c4 : Int) (c5 : Int) : runS tt (spec_l1Cur_side_tab F) (spec_l1Cur_side_LS0 F) [] [] Try.f16 (bodyOf Try.f16) 70 [(.ptr 0 0 0 3)] [(.var 3 (.rv [(.ri .u8 c3), (.int .i64 c4), (.int .u64 c5)]))] = spec_l1Cur_side_c _ c3 c4 c5 (fun r => some ⟨(.int .i64 r.1), [(.var 3 (.rv [(.ri .u8 c3), (.int .i64 r.2.1), (.int .u64 r.2.2)]))], []⟩) := by kernel_rfl
def spec_l1Cur_side_ent (F : Nat) : Ent := ⟨[], .loud, fun args mem => match args, mem with
  | [(.ptr 0 0 0 3)], [(.var 3 (.rv [(.ri .u8 c3), (.int .i64 c4), (.int .u64 c5)]))] => some ((spec_l1Cur_side_p c3 c4 c5).isSome, ⟨(.int .i64 ((spec_l1Cur_side_p c3 c4 c5).getD default).1), [(.var 3 (.rv [(.ri .u8 c3), (.int .i64 ((spec_l1Cur_side_p c3 c4 c5).getD default).2.1), (.int .u64 ((spec_l1Cur_side_p c3 c4 c5).getD default).2.2)]))], []⟩)
  | _, _ => none⟩
theorem spec_l1Cur_side_fok : FunOK Try.prog 16 := funOK Try.func16 (by kernel_rfl) rfl
theorem spec_l1Cur_side_meets (F : Nat) : Meets Try.prog 16 (spec_l1Cur_side_ent F) := by
  refine meets_of_runS mixed ttok deep (spec_l1Cur_side_tabok F) Try.func16 (body_some rfl) (spec_l1Cur_side_lsok0 F) fun args mem hfit ret h => ?_
  clear hfit
  simp only [spec_l1Cur_side_ent] at h
  split at h
  · rename_i c3 c4 c5
    simp only [Option.some.injEq, Prod.mk.injEq] at h
    obtain ⟨hc, rfl⟩ := h
    exact ⟨[], [], 70, _, (spec_l1Cur_side_run F c3 c4 c5).trans ((spec_l1Cur_side_cp _ c3 c4 c5 _).trans (bind_use hc _)), rfl, rfl, rfl⟩
  · cases h

/-! loop.example/g01194/spec.DrawDoCommute -/
noncomputable def spec_DrawDoCommute_tab (F : Nat) : Tab := [(15, (spec_l1Cur_formed3_ent F)), (16, (spec_l1Cur_side_ent F))]
theorem spec_DrawDoCommute_tabok (F : Nat) : TabOK Try.prog (spec_DrawDoCommute_tab F) := (tab_cons (spec_l1Cur_formed3_meets F) spec_l1Cur_formed3_fok (tab_cons (spec_l1Cur_side_meets F) spec_l1Cur_side_fok tab_nil))
noncomputable def spec_DrawDoCommute_LS0 (F : Nat) : LT := []
theorem spec_DrawDoCommute_lsok0 (F : Nat) : LoopsOK Try.prog (spec_DrawDoCommute_LS0 F) (bodyOf Try.f5) := loopsOK_nil
theorem spec_DrawDoCommute_run (F : Nat) (code0 : List Int) : runS tt (spec_DrawDoCommute_tab F) (spec_DrawDoCommute_LS0 F) [] [] Try.f5 (bodyOf Try.f5) 70 [(.ri .u8 code0)] [] = spec_DrawDoCommute_c _ F code0 (fun r => some ⟨(.tup [(.ints 16 r.1), (.int .i64 r.2.1), (.int .i64 r.2.2)]), [], []⟩) := by kernel_rfl
def spec_DrawDoCommute_ent (F : Nat) : Ent := ⟨[], .quiet, fun args mem => match args, mem with
  | [(.ri .u8 code0)], [] => some ((spec_DrawDoCommute_p F code0).isSome, ⟨(.tup [(.ints 16 ((spec_DrawDoCommute_p F code0).getD default).1), (.int .i64 ((spec_DrawDoCommute_p F code0).getD default).2.1), (.int .i64 ((spec_DrawDoCommute_p F code0).getD default).2.2)]), [], []⟩)
  | _, _ => none⟩
theorem spec_DrawDoCommute_fok : FunOK Try.prog 5 := funOK Try.func5 (by kernel_rfl) rfl
theorem spec_DrawDoCommute_meets (F : Nat) : Meets Try.prog 5 (spec_DrawDoCommute_ent F) := by
  refine meets_of_runS mixed ttok deep (spec_DrawDoCommute_tabok F) Try.func5 (body_some rfl) (spec_DrawDoCommute_lsok0 F) fun args mem hfit ret h => ?_
  clear hfit
  simp only [spec_DrawDoCommute_ent] at h
  split at h
  · rename_i code0
    simp only [Option.some.injEq, Prod.mk.injEq] at h
    obtain ⟨hc, rfl⟩ := h
    exact ⟨[], [], 70, _, (spec_DrawDoCommute_run F code0).trans ((spec_DrawDoCommute_cp _ F code0 _).trans (bind_use hc _)), rfl, rfl, rfl⟩
  · cases h

/-! loop.example/g01194/impl.in -/
noncomputable def impl_in_tab (F : Nat) : Tab := []
theorem impl_in_tabok (F : Nat) : TabOK Try.prog (impl_in_tab F) := tab_nil
noncomputable def impl_in_LS0 (F : Nat) : LT := []
theorem impl_in_lsok0 (F : Nat) : LoopsOK Try.prog (impl_in_LS0 F) (bodyOf Try.f35) := loopsOK_nil
theorem impl_in_run (F : Nat) (n0 : Int) (low1 : Int) (high2 : Int) : runS tt (impl_in_tab F) (impl_in_LS0 F) [] [] Try.f35 (bodyOf Try.f35) 70 [(.int .i64 n0), (.int .i64 low1), (.int .i64 high2)] [] = impl_in_c _ n0 low1 high2 (fun r => some ⟨(.bool r), [], []⟩) := by kernel_rfl
def impl_in_ent (F : Nat) : Ent := ⟨[], .quiet, fun args mem => match args, mem with
  | [(.int .i64 n0), (.int .i64 low1), (.int .i64 high2)], [] => some (true, ⟨(.bool (impl_in_v n0 low1 high2)), [], []⟩)
  | _, _ => none⟩
theorem impl_in_fok : FunOK Try.prog 35 := funOK Try.func35 (by kernel_rfl) rfl
theorem impl_in_meets (F : Nat) : Meets Try.prog 35 (impl_in_ent F) := by
  refine meets_of_runS mixed ttok deep (impl_in_tabok F) Try.func35 (body_some rfl) (impl_in_lsok0 F) fun args mem hfit ret h => ?_
  clear hfit
  simp only [impl_in_ent] at h
  split at h
  · rename_i n0 low1 high2
    simp only [Option.some.injEq, Prod.mk.injEq] at h
    obtain ⟨hc, rfl⟩ := h
    exact ⟨[], [], 70, _, (impl_in_run F n0 low1 high2).trans (impl_in_cv _ n0 low1 high2 _), rfl, rfl, rfl⟩
  · cases h

/-! loop.example/g01194/impl.IsRow$1 -/
noncomputable def impl_IsRow_f1_tab (F : Nat) : Tab := [(35, (impl_in_ent F))]
theorem impl_IsRow_f1_tabok (F : Nat) : TabOK Try.prog (impl_IsRow_f1_tab F) := (tab_cons (impl_in_meets F) impl_in_fok tab_nil)
noncomputable def impl_IsRow_f1_LS0 (F : Nat) : LT := []
theorem impl_IsRow_f1_lsok0 (F : Nat) : LoopsOK Try.prog (impl_IsRow_f1_LS0 F) (bodyOf Try.f49) := loopsOK_nil
theorem impl_IsRow_f1_run (F : Nat) (n0 : Int) : runS tt (impl_IsRow_f1_tab F) (impl_IsRow_f1_LS0 F) [] [] Try.f49 (bodyOf Try.f49) 70 [(.int .i64 n0)] [] = impl_IsRow_f1_c _ n0 (fun r => some ⟨(.bool r), [], []⟩) := by kernel_rfl
def impl_IsRow_f1_ent (F : Nat) : Ent := ⟨[], .quiet, fun args mem => match args, mem with
  | [(.int .i64 n0)], [] => some (true, ⟨(.bool (impl_IsRow_f1_v n0)), [], []⟩)
  | _, _ => none⟩
theorem impl_IsRow_f1_fok : FunOK Try.prog 49 := funOK Try.func49 (by kernel_rfl) rfl
theorem impl_IsRow_f1_meets (F : Nat) : Meets Try.prog 49 (impl_IsRow_f1_ent F) := by
  refine meets_of_runS mixed ttok deep (impl_IsRow_f1_tabok F) Try.func49 (body_some rfl) (impl_IsRow_f1_lsok0 F) fun args mem hfit ret h => ?_
  clear hfit
  simp only [impl_IsRow_f1_ent] at h
  split at h
  · rename_i n0
    simp only [Option.some.injEq, Prod.mk.injEq] at h
    obtain ⟨hc, rfl⟩ := h
    exact ⟨[], [], 70, _, (impl_IsRow_f1_run F n0).trans (impl_IsRow_f1_cv _ n0 _), rfl, rfl, rfl⟩
  · cases h
end Go.Proofs.Ytgdokdkcbgkekaa
