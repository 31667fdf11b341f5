/-
Pure functions and what the code of them does, by program; without conditions.
-/
import Derived.Test.YtabfliifleonaaiQiP1
import Derived.Test.YtabfliifleonaaiQiS0
namespace Go.Proofs.Ytabfliifleonaai
open Go Go.Lv Go.Lv.P Go.Proofs
set_option linter.unusedVariables false
set_option linter.unusedSimpArgs false
set_option maxRecDepth 100000
/-! (*loop.example/g01194/spec.l1Cur).board -/
noncomputable def spec_l1Cur_board_tab (F : Nat) : Tab := [(25, (spec_l1Cur_one_ent F)), (41, (spec_l1Cur_tile_ent F)), (24, (spec_l1Cur_pick_ent F)), (36, (spec_l1Cur_among_ent F))]
theorem spec_l1Cur_board_tabok (F : Nat) : TabOK Try.prog (spec_l1Cur_board_tab F) := (tab_cons (spec_l1Cur_one_meets F) spec_l1Cur_one_fok (tab_cons (spec_l1Cur_tile_meets F) spec_l1Cur_tile_fok (tab_cons (spec_l1Cur_pick_meets F) spec_l1Cur_pick_fok (tab_cons (spec_l1Cur_among_meets F) spec_l1Cur_among_fok tab_nil))))
noncomputable def spec_l1Cur_board_LS0 (F : Nat) : LT := []
theorem spec_l1Cur_board_lsok0 (F : Nat) : LoopsOK Try.prog (spec_l1Cur_board_LS0 F) (bodyOf Try.f23) := loopsOK_nil
theorem spec_l1Cur_board_keys : keysOK (bodyOf Try.f23) = true := by kernel_rfl
def spec_l1Cur_board_st6 (few9 : Bool) (full10 : Bool) (r11 : Int) (c13 : List Int) (k12 : Int) (c14 : Int) (c15 : Int) (b17 : List Int) : St := ⟨expand 110 0 [0, 2, 3, 4, 5, 6, 7] [(.ptr 0 0 0 3), (.ptr 1 0 0 16), (.ptr 2 0 0 16), (.bool few9), (.bool full10), (.int .i64 r11), (.int .i64 k12)], [(.var 3 (.rv [(.ri .u8 c13), (.int .i64 c14), (.int .u64 c15)])), (.var 16 (.ri .i64 [(0 : Int), (0 : Int), (0 : Int), (0 : Int), (0 : Int), (0 : Int), (0 : Int), (0 : Int), (0 : Int), (0 : Int), (0 : Int), (0 : Int), (0 : Int), (0 : Int), (0 : Int), (0 : Int)])), (.var 16 (.ri .i64 b17))], 1, []⟩
def spec_l1Cur_board_o6 (few9 : Bool) (full10 : Bool) (r11 : Int) (c13 : List Int) (x : Int × Int × List Int) : GT := (.out (.exit 2 ⟨expand 110 0 [0, 2, 3, 4, 5, 6] [(.ptr 0 0 0 3), (.ptr 1 0 0 16), (.ptr 2 0 0 16), (.bool few9), (.bool full10), (.int .i64 r11)], [(.var 3 (.rv [(.ri .u8 c13), (.int .i64 x.1), (.int .u64 x.2.1)])), (.var 16 (.ri .i64 [(0 : Int), (0 : Int), (0 : Int), (0 : Int), (0 : Int), (0 : Int), (0 : Int), (0 : Int), (0 : Int), (0 : Int), (0 : Int), (0 : Int), (0 : Int), (0 : Int), (0 : Int), (0 : Int)])), (.var 16 (.ri .i64 x.2.2))], 1, []⟩))
def spec_l1Cur_board_ls6 (F : Nat) : LoopS := ⟨110, [0, 2, 3, 4, 5, 6, 7], [], [0, 2, 3, 4, 5, 6], [], [2], [], [], fun vals mem np killed => match vals, mem, np, killed with
  | [(.ptr 0 0 0 3), (.ptr 1 0 0 16), (.ptr 2 0 0 16), (.bool few9), (.bool full10), (.int .i64 r11), (.int .i64 k12)], [(.var 3 (.rv [(.ri .u8 c13), (.int .i64 c14), (.int .u64 c15)])), (.var 16 (.ri .i64 q_t216)), (.var 16 (.ri .i64 b17))], 1, [] => .br ((q_t216 == ([(0 : Int), (0 : Int), (0 : Int), (0 : Int), (0 : Int), (0 : Int), (0 : Int), (0 : Int), (0 : Int), (0 : Int), (0 : Int), (0 : Int), (0 : Int), (0 : Int), (0 : Int), (0 : Int)] : List Int)) && (spec_l1Cur_board_l6 F few9 full10 r11 c13 k12 c14 c15 b17).isSome) (spec_l1Cur_board_o6 few9 full10 r11 c13 ((spec_l1Cur_board_l6 F few9 full10 r11 c13 k12 c14 c15 b17).getD default)) .fail
  | _, _, _, _ => .fail⟩
theorem spec_l1Cur_board_step6 (F : Nat) (few9 : Bool) (full10 : Bool) (r11 : Int) (c13 : List Int) (k12 : Int) (c14 : Int) (c15 : Int) (b17 : List Int) {R : Type} (k : Out → Option R) : stepS tt (spec_l1Cur_board_tab F) (spec_l1Cur_board_LS0 F) 70 (spec_l1Cur_board_ls6 F) (loopAt 6 (bodyOf Try.f23)) (spec_l1Cur_board_st6 few9 full10 r11 c13 k12 c14 c15 b17) k = spec_l1Cur_board_s6 F few9 full10 r11 c13 R (k12, c14, c15, b17) (fun s => k (.norm (spec_l1Cur_board_st6 few9 full10 r11 c13 s.1 s.2.1 s.2.2.1 s.2.2.2))) (fun x => (spec_l1Cur_board_o6 few9 full10 r11 c13 x).run k) := by kernel_rfl
theorem spec_l1Cur_board_iter6 (F : Nat) (few9 : Bool) (full10 : Bool) (r11 : Int) (c13 : List Int) {R : Type} (k : Out → Option R) : ∀ (n : Nat) (k12 : Int) (c14 : Int) (c15 : Int) (b17 : List Int), iterS tt (spec_l1Cur_board_tab F) (spec_l1Cur_board_LS0 F) 70 (spec_l1Cur_board_ls6 F) (loopAt 6 (bodyOf Try.f23)) n (spec_l1Cur_board_st6 few9 full10 r11 c13 k12 c14 c15 b17) k = loopC (spec_l1Cur_board_s6 F few9 full10 r11 c13) n (k12, c14, c15, b17) (fun x => (spec_l1Cur_board_o6 few9 full10 r11 c13 x).run k)
  | 0, k12, c14, c15, b17 => rfl
  | n + 1, k12, c14, c15, b17 => (iterS_succ tt (spec_l1Cur_board_tab F) (spec_l1Cur_board_LS0 F) 70 (spec_l1Cur_board_ls6 F) (loopAt 6 (bodyOf Try.f23)) n (spec_l1Cur_board_st6 few9 full10 r11 c13 k12 c14 c15 b17) k).trans ((spec_l1Cur_board_step6 F few9 full10 r11 c13 k12 c14 c15 b17 (nextK (iterS tt (spec_l1Cur_board_tab F) (spec_l1Cur_board_LS0 F) 70 (spec_l1Cur_board_ls6 F) (loopAt 6 (bodyOf Try.f23)) n) k)).trans (congrArg (fun kn => spec_l1Cur_board_s6 F few9 full10 r11 c13 R (k12, c14, c15, b17) kn _) (funext (fun ⟨k12, c14, c15, b17⟩ => spec_l1Cur_board_iter6 F few9 full10 r11 c13 k n k12 c14 c15 b17))))
theorem spec_l1Cur_board_lok6 (F : Nat) : LoopOK Try.prog (loopAt 6 (bodyOf Try.f23)) (spec_l1Cur_board_ls6 F) := by
  refine loopOK_of mixed ttok deep (spec_l1Cur_board_tabok F) (loopsOK_at (spec_l1Cur_board_lsok0 F) 6) (fuel := 70) fun R vals mem np killed k x h => ?_
  simp only [spec_l1Cur_board_ls6] at h
  split at h
  · rename_i few9 full10 r11 k12 c13 c14 c15 q_t216 b17
    simp only [GT.run] at h
    have hc := (cond_noneL h).1
    replace h := (cond_noneL h).2
    have hg := (and_split hc).1
    replace hc := (and_split hc).2
    obtain rfl := beq_li hg
    refine ⟨F, (spec_l1Cur_board_iter6 F few9 full10 r11 c13 k F k12 c14 c15 b17).trans ((loopC_use (spec_l1Cur_board_s6_nat F few9 full10 r11 c13) hc _).trans h)⟩
  · simp only [GT.run] at h
    cases h
noncomputable def spec_l1Cur_board_LS1 (F : Nat) : LT := (6, spec_l1Cur_board_ls6 F) :: spec_l1Cur_board_LS0 F
theorem spec_l1Cur_board_lsok1 (F : Nat) : LoopsOK Try.prog (spec_l1Cur_board_LS1 F) (bodyOf Try.f23) := loopsOK_cons spec_l1Cur_board_keys (spec_l1Cur_board_lok6 F) (spec_l1Cur_board_lsok0 F)
def spec_l1Cur_board_st3 (few9 : Bool) (full10 : Bool) (c12 : List Int) (r11 : Int) (c13 : Int) (c14 : Int) (b16 : List Int) : St := ⟨expand 110 0 [0, 2, 3, 4, 5, 6] [(.ptr 0 0 0 3), (.ptr 1 0 0 16), (.ptr 2 0 0 16), (.bool few9), (.bool full10), (.int .i64 r11)], [(.var 3 (.rv [(.ri .u8 c12), (.int .i64 c13), (.int .u64 c14)])), (.var 16 (.ri .i64 [(0 : Int), (0 : Int), (0 : Int), (0 : Int), (0 : Int), (0 : Int), (0 : Int), (0 : Int), (0 : Int), (0 : Int), (0 : Int), (0 : Int), (0 : Int), (0 : Int), (0 : Int), (0 : Int)])), (.var 16 (.ri .i64 b16))], 1, []⟩
def spec_l1Cur_board_o3 (few9 : Bool) (full10 : Bool) (c12 : List Int) (x : Int × Int × List Int) : GT := (.out (.exit 0 ⟨expand 110 0 [0, 2, 3] [(.ptr 0 0 0 3), (.ptr 1 0 0 16), (.ptr 2 0 0 16)], [(.var 3 (.rv [(.ri .u8 c12), (.int .i64 x.1), (.int .u64 x.2.1)])), (.var 16 (.ri .i64 [(0 : Int), (0 : Int), (0 : Int), (0 : Int), (0 : Int), (0 : Int), (0 : Int), (0 : Int), (0 : Int), (0 : Int), (0 : Int), (0 : Int), (0 : Int), (0 : Int), (0 : Int), (0 : Int)])), (.var 16 (.ri .i64 x.2.2))], 1, []⟩))
def spec_l1Cur_board_ls3 (F : Nat) : LoopS := ⟨110, [0, 2, 3, 4, 5, 6], [], [0, 2, 3], [], [2], [], [], fun vals mem np killed => match vals, mem, np, killed with
  | [(.ptr 0 0 0 3), (.ptr 1 0 0 16), (.ptr 2 0 0 16), (.bool few9), (.bool full10), (.int .i64 r11)], [(.var 3 (.rv [(.ri .u8 c12), (.int .i64 c13), (.int .u64 c14)])), (.var 16 (.ri .i64 q_t215)), (.var 16 (.ri .i64 b16))], 1, [] => .br ((q_t215 == ([(0 : Int), (0 : Int), (0 : Int), (0 : Int), (0 : Int), (0 : Int), (0 : Int), (0 : Int), (0 : Int), (0 : Int), (0 : Int), (0 : Int), (0 : Int), (0 : Int), (0 : Int), (0 : Int)] : List Int)) && (spec_l1Cur_board_l3 F few9 full10 c12 r11 c13 c14 b16).isSome) (spec_l1Cur_board_o3 few9 full10 c12 ((spec_l1Cur_board_l3 F few9 full10 c12 r11 c13 c14 b16).getD default)) .fail
  | _, _, _, _ => .fail⟩
theorem spec_l1Cur_board_step3 (F : Nat) (few9 : Bool) (full10 : Bool) (c12 : List Int) (r11 : Int) (c13 : Int) (c14 : Int) (b16 : List Int) {R : Type} (k : Out → Option R) : stepS tt (spec_l1Cur_board_tab F) (spec_l1Cur_board_LS1 F) 70 (spec_l1Cur_board_ls3 F) (loopAt 3 (bodyOf Try.f23)) (spec_l1Cur_board_st3 few9 full10 c12 r11 c13 c14 b16) k = spec_l1Cur_board_s3 F few9 full10 c12 R (r11, c13, c14, b16) (fun s => k (.norm (spec_l1Cur_board_st3 few9 full10 c12 s.1 s.2.1 s.2.2.1 s.2.2.2))) (fun x => (spec_l1Cur_board_o3 few9 full10 c12 x).run k) := by kernel_rfl
theorem spec_l1Cur_board_iter3 (F : Nat) (few9 : Bool) (full10 : Bool) (c12 : List Int) {R : Type} (k : Out → Option R) : ∀ (n : Nat) (r11 : Int) (c13 : Int) (c14 : Int) (b16 : List Int), iterS tt (spec_l1Cur_board_tab F) (spec_l1Cur_board_LS1 F) 70 (spec_l1Cur_board_ls3 F) (loopAt 3 (bodyOf Try.f23)) n (spec_l1Cur_board_st3 few9 full10 c12 r11 c13 c14 b16) k = loopC (spec_l1Cur_board_s3 F few9 full10 c12) n (r11, c13, c14, b16) (fun x => (spec_l1Cur_board_o3 few9 full10 c12 x).run k)
  | 0, r11, c13, c14, b16 => rfl
  | n + 1, r11, c13, c14, b16 => (iterS_succ tt (spec_l1Cur_board_tab F) (spec_l1Cur_board_LS1 F) 70 (spec_l1Cur_board_ls3 F) (loopAt 3 (bodyOf Try.f23)) n (spec_l1Cur_board_st3 few9 full10 c12 r11 c13 c14 b16) k).trans ((spec_l1Cur_board_step3 F few9 full10 c12 r11 c13 c14 b16 (nextK (iterS tt (spec_l1Cur_board_tab F) (spec_l1Cur_board_LS1 F) 70 (spec_l1Cur_board_ls3 F) (loopAt 3 (bodyOf Try.f23)) n) k)).trans (congrArg (fun kn => spec_l1Cur_board_s3 F few9 full10 c12 R (r11, c13, c14, b16) kn _) (funext (fun ⟨r11, c13, c14, b16⟩ => spec_l1Cur_board_iter3 F few9 full10 c12 k n r11 c13 c14 b16))))
theorem spec_l1Cur_board_lok3 (F : Nat) : LoopOK Try.prog (loopAt 3 (bodyOf Try.f23)) (spec_l1Cur_board_ls3 F) := by
  refine loopOK_of mixed ttok deep (spec_l1Cur_board_tabok F) (loopsOK_at (spec_l1Cur_board_lsok1 F) 3) (fuel := 70) fun R vals mem np killed k x h => ?_
  simp only [spec_l1Cur_board_ls3] at h
  split at h
  · rename_i few9 full10 r11 c12 c13 c14 q_t215 b16
    simp only [GT.run] at h
    have hc := (cond_noneL h).1
    replace h := (cond_noneL h).2
    have hg := (and_split hc).1
    replace hc := (and_split hc).2
    obtain rfl := beq_li hg
    refine ⟨F, (spec_l1Cur_board_iter3 F few9 full10 c12 k F r11 c13 c14 b16).trans ((loopC_use (spec_l1Cur_board_s3_nat F few9 full10 c12) hc _).trans h)⟩
  · simp only [GT.run] at h
    cases h
noncomputable def spec_l1Cur_board_LS2 (F : Nat) : LT := (3, spec_l1Cur_board_ls3 F) :: spec_l1Cur_board_LS1 F
theorem spec_l1Cur_board_lsok2 (F : Nat) : LoopsOK Try.prog (spec_l1Cur_board_LS2 F) (bodyOf Try.f23) := loopsOK_cons spec_l1Cur_board_keys (spec_l1Cur_board_lok3 F) (spec_l1Cur_board_lsok1 F)
def spec_l1Cur_board_st29 (r9 : Int) (c11 : List Int) (k10 : Int) (c12 : Int) (c13 : Int) (b15 : List Int) : St := ⟨expand 110 0 [0, 2, 3, 11, 12] [(.ptr 0 0 0 3), (.ptr 1 0 0 16), (.ptr 2 0 0 16), (.int .i64 r9), (.int .i64 k10)], [(.var 3 (.rv [(.ri .u8 c11), (.int .i64 c12), (.int .u64 c13)])), (.var 16 (.ri .i64 [(0 : Int), (0 : Int), (0 : Int), (0 : Int), (0 : Int), (0 : Int), (0 : Int), (0 : Int), (0 : Int), (0 : Int), (0 : Int), (0 : Int), (0 : Int), (0 : Int), (0 : Int), (0 : Int)])), (.var 16 (.ri .i64 b15))], 1, []⟩
def spec_l1Cur_board_o29 (r9 : Int) (c11 : List Int) (x : Int × Int × List Int) : GT := (.out (.exit 7 ⟨expand 110 0 [0, 2, 3, 11] [(.ptr 0 0 0 3), (.ptr 1 0 0 16), (.ptr 2 0 0 16), (.int .i64 r9)], [(.var 3 (.rv [(.ri .u8 c11), (.int .i64 x.1), (.int .u64 x.2.1)])), (.var 16 (.ri .i64 [(0 : Int), (0 : Int), (0 : Int), (0 : Int), (0 : Int), (0 : Int), (0 : Int), (0 : Int), (0 : Int), (0 : Int), (0 : Int), (0 : Int), (0 : Int), (0 : Int), (0 : Int), (0 : Int)])), (.var 16 (.ri .i64 x.2.2))], 1, []⟩))
def spec_l1Cur_board_ls29 (F : Nat) : LoopS := ⟨110, [0, 2, 3, 11, 12], [], [0, 2, 3, 11], [], [2], [], [], fun vals mem np killed => match vals, mem, np, killed with
  | [(.ptr 0 0 0 3), (.ptr 1 0 0 16), (.ptr 2 0 0 16), (.int .i64 r9), (.int .i64 k10)], [(.var 3 (.rv [(.ri .u8 c11), (.int .i64 c12), (.int .u64 c13)])), (.var 16 (.ri .i64 q_t214)), (.var 16 (.ri .i64 b15))], 1, [] => .br ((q_t214 == ([(0 : Int), (0 : Int), (0 : Int), (0 : Int), (0 : Int), (0 : Int), (0 : Int), (0 : Int), (0 : Int), (0 : Int), (0 : Int), (0 : Int), (0 : Int), (0 : Int), (0 : Int), (0 : Int)] : List Int)) && (spec_l1Cur_board_l29 F r9 c11 k10 c12 c13 b15).isSome) (spec_l1Cur_board_o29 r9 c11 ((spec_l1Cur_board_l29 F r9 c11 k10 c12 c13 b15).getD default)) .fail
  | _, _, _, _ => .fail⟩
theorem spec_l1Cur_board_step29 (F : Nat) (r9 : Int) (c11 : List Int) (k10 : Int) (c12 : Int) (c13 : Int) (b15 : List Int) {R : Type} (k : Out → Option R) : stepS tt (spec_l1Cur_board_tab F) (spec_l1Cur_board_LS2 F) 70 (spec_l1Cur_board_ls29 F) (loopAt 29 (bodyOf Try.f23)) (spec_l1Cur_board_st29 r9 c11 k10 c12 c13 b15) k = spec_l1Cur_board_s29 F r9 c11 R (k10, c12, c13, b15) (fun s => k (.norm (spec_l1Cur_board_st29 r9 c11 s.1 s.2.1 s.2.2.1 s.2.2.2))) (fun x => (spec_l1Cur_board_o29 r9 c11 x).run k) := by kernel_rfl
theorem spec_l1Cur_board_iter29 (F : Nat) (r9 : Int) (c11 : List Int) {R : Type} (k : Out → Option R) : ∀ (n : Nat) (k10 : Int) (c12 : Int) (c13 : Int) (b15 : List Int), iterS tt (spec_l1Cur_board_tab F) (spec_l1Cur_board_LS2 F) 70 (spec_l1Cur_board_ls29 F) (loopAt 29 (bodyOf Try.f23)) n (spec_l1Cur_board_st29 r9 c11 k10 c12 c13 b15) k = loopC (spec_l1Cur_board_s29 F r9 c11) n (k10, c12, c13, b15) (fun x => (spec_l1Cur_board_o29 r9 c11 x).run k)
  | 0, k10, c12, c13, b15 => rfl
  | n + 1, k10, c12, c13, b15 => (iterS_succ tt (spec_l1Cur_board_tab F) (spec_l1Cur_board_LS2 F) 70 (spec_l1Cur_board_ls29 F) (loopAt 29 (bodyOf Try.f23)) n (spec_l1Cur_board_st29 r9 c11 k10 c12 c13 b15) k).trans ((spec_l1Cur_board_step29 F r9 c11 k10 c12 c13 b15 (nextK (iterS tt (spec_l1Cur_board_tab F) (spec_l1Cur_board_LS2 F) 70 (spec_l1Cur_board_ls29 F) (loopAt 29 (bodyOf Try.f23)) n) k)).trans (congrArg (fun kn => spec_l1Cur_board_s29 F r9 c11 R (k10, c12, c13, b15) kn _) (funext (fun ⟨k10, c12, c13, b15⟩ => spec_l1Cur_board_iter29 F r9 c11 k n k10 c12 c13 b15))))
theorem spec_l1Cur_board_lok29 (F : Nat) : LoopOK Try.prog (loopAt 29 (bodyOf Try.f23)) (spec_l1Cur_board_ls29 F) := by
  refine loopOK_of mixed ttok deep (spec_l1Cur_board_tabok F) (loopsOK_at (spec_l1Cur_board_lsok2 F) 29) (fuel := 70) fun R vals mem np killed k x h => ?_
  simp only [spec_l1Cur_board_ls29] at h
  split at h
  · rename_i r9 k10 c11 c12 c13 q_t214 b15
    simp only [GT.run] at h
    have hc := (cond_noneL h).1
    replace h := (cond_noneL h).2
    have hg := (and_split hc).1
    replace hc := (and_split hc).2
    obtain rfl := beq_li hg
    refine ⟨F, (spec_l1Cur_board_iter29 F r9 c11 k F k10 c12 c13 b15).trans ((loopC_use (spec_l1Cur_board_s29_nat F r9 c11) hc _).trans h)⟩
  · simp only [GT.run] at h
    cases h
noncomputable def spec_l1Cur_board_LS3 (F : Nat) : LT := (29, spec_l1Cur_board_ls29 F) :: spec_l1Cur_board_LS2 F
theorem spec_l1Cur_board_lsok3 (F : Nat) : LoopsOK Try.prog (spec_l1Cur_board_LS3 F) (bodyOf Try.f23) := loopsOK_cons spec_l1Cur_board_keys (spec_l1Cur_board_lok29 F) (spec_l1Cur_board_lsok2 F)
def spec_l1Cur_board_st26 (c10 : List Int) (r9 : Int) (c11 : Int) (c12 : Int) (b14 : List Int) : St := ⟨expand 110 0 [0, 2, 3, 11] [(.ptr 0 0 0 3), (.ptr 1 0 0 16), (.ptr 2 0 0 16), (.int .i64 r9)], [(.var 3 (.rv [(.ri .u8 c10), (.int .i64 c11), (.int .u64 c12)])), (.var 16 (.ri .i64 [(0 : Int), (0 : Int), (0 : Int), (0 : Int), (0 : Int), (0 : Int), (0 : Int), (0 : Int), (0 : Int), (0 : Int), (0 : Int), (0 : Int), (0 : Int), (0 : Int), (0 : Int), (0 : Int)])), (.var 16 (.ri .i64 b14))], 1, []⟩
def spec_l1Cur_board_o26 (c10 : List Int) (x : Int × Int × List Int) : GT := (.out (.exit 5 ⟨expand 110 0 [2, 3] [(.ptr 1 0 0 16), (.ptr 2 0 0 16)], [(.var 3 (.rv [(.ri .u8 c10), (.int .i64 x.1), (.int .u64 x.2.1)])), (.var 16 (.ri .i64 [(0 : Int), (0 : Int), (0 : Int), (0 : Int), (0 : Int), (0 : Int), (0 : Int), (0 : Int), (0 : Int), (0 : Int), (0 : Int), (0 : Int), (0 : Int), (0 : Int), (0 : Int), (0 : Int)])), (.var 16 (.ri .i64 x.2.2))], 1, []⟩))
def spec_l1Cur_board_ls26 (F : Nat) : LoopS := ⟨110, [0, 2, 3, 11], [], [2, 3], [], [2], [], [], fun vals mem np killed => match vals, mem, np, killed with
  | [(.ptr 0 0 0 3), (.ptr 1 0 0 16), (.ptr 2 0 0 16), (.int .i64 r9)], [(.var 3 (.rv [(.ri .u8 c10), (.int .i64 c11), (.int .u64 c12)])), (.var 16 (.ri .i64 q_t213)), (.var 16 (.ri .i64 b14))], 1, [] => .br ((q_t213 == ([(0 : Int), (0 : Int), (0 : Int), (0 : Int), (0 : Int), (0 : Int), (0 : Int), (0 : Int), (0 : Int), (0 : Int), (0 : Int), (0 : Int), (0 : Int), (0 : Int), (0 : Int), (0 : Int)] : List Int)) && (spec_l1Cur_board_l26 F c10 r9 c11 c12 b14).isSome) (spec_l1Cur_board_o26 c10 ((spec_l1Cur_board_l26 F c10 r9 c11 c12 b14).getD default)) .fail
  | _, _, _, _ => .fail⟩
theorem spec_l1Cur_board_step26 (F : Nat) (c10 : List Int) (r9 : Int) (c11 : Int) (c12 : Int) (b14 : List Int) {R : Type} (k : Out → Option R) : stepS tt (spec_l1Cur_board_tab F) (spec_l1Cur_board_LS3 F) 70 (spec_l1Cur_board_ls26 F) (loopAt 26 (bodyOf Try.f23)) (spec_l1Cur_board_st26 c10 r9 c11 c12 b14) k = spec_l1Cur_board_s26 F c10 R (r9, c11, c12, b14) (fun s => k (.norm (spec_l1Cur_board_st26 c10 s.1 s.2.1 s.2.2.1 s.2.2.2))) (fun x => (spec_l1Cur_board_o26 c10 x).run k) := by kernel_rfl
theorem spec_l1Cur_board_iter26 (F : Nat) (c10 : List Int) {R : Type} (k : Out → Option R) : ∀ (n : Nat) (r9 : Int) (c11 : Int) (c12 : Int) (b14 : List Int), iterS tt (spec_l1Cur_board_tab F) (spec_l1Cur_board_LS3 F) 70 (spec_l1Cur_board_ls26 F) (loopAt 26 (bodyOf Try.f23)) n (spec_l1Cur_board_st26 c10 r9 c11 c12 b14) k = loopC (spec_l1Cur_board_s26 F c10) n (r9, c11, c12, b14) (fun x => (spec_l1Cur_board_o26 c10 x).run k)
  | 0, r9, c11, c12, b14 => rfl
  | n + 1, r9, c11, c12, b14 => (iterS_succ tt (spec_l1Cur_board_tab F) (spec_l1Cur_board_LS3 F) 70 (spec_l1Cur_board_ls26 F) (loopAt 26 (bodyOf Try.f23)) n (spec_l1Cur_board_st26 c10 r9 c11 c12 b14) k).trans ((spec_l1Cur_board_step26 F c10 r9 c11 c12 b14 (nextK (iterS tt (spec_l1Cur_board_tab F) (spec_l1Cur_board_LS3 F) 70 (spec_l1Cur_board_ls26 F) (loopAt 26 (bodyOf Try.f23)) n) k)).trans (congrArg (fun kn => spec_l1Cur_board_s26 F c10 R (r9, c11, c12, b14) kn _) (funext (fun ⟨r9, c11, c12, b14⟩ => spec_l1Cur_board_iter26 F c10 k n r9 c11 c12 b14))))
theorem spec_l1Cur_board_lok26 (F : Nat) : LoopOK Try.prog (loopAt 26 (bodyOf Try.f23)) (spec_l1Cur_board_ls26 F) := by
  refine loopOK_of mixed ttok deep (spec_l1Cur_board_tabok F) (loopsOK_at (spec_l1Cur_board_lsok3 F) 26) (fuel := 70) fun R vals mem np killed k x h => ?_
  simp only [spec_l1Cur_board_ls26] at h
  split at h
  · rename_i r9 c10 c11 c12 q_t213 b14
    simp only [GT.run] at h
    have hc := (cond_noneL h).1
    replace h := (cond_noneL h).2
    have hg := (and_split hc).1
    replace hc := (and_split hc).2
    obtain rfl := beq_li hg
    refine ⟨F, (spec_l1Cur_board_iter26 F c10 k F r9 c11 c12 b14).trans ((loopC_use (spec_l1Cur_board_s26_nat F c10) hc _).trans h)⟩
  · simp only [GT.run] at h
    cases h
noncomputable def spec_l1Cur_board_LS4 (F : Nat) : LT := (26, spec_l1Cur_board_ls26 F) :: spec_l1Cur_board_LS3 F
theorem spec_l1Cur_board_lsok4 (F : Nat) : LoopsOK Try.prog (spec_l1Cur_board_LS4 F) (bodyOf Try.f23) := loopsOK_cons spec_l1Cur_board_keys (spec_l1Cur_board_lok26 F) (spec_l1Cur_board_lsok3 F)
theorem spec_l1Cur_board_run (F : Nat) (c3 : List Int) (c4 : Int) (c5 : Int) : runS tt (spec_l1Cur_board_tab F) (spec_l1Cur_board_LS4 F) [] [] Try.f23 (bodyOf Try.f23) 70 [(.ptr 0 0 0 3)] [(.var 3 (.rv [(.ri .u8 c3), (.int .i64 c4), (.int .u64 c5)]))] = spec_l1Cur_board_c _ F c3 c4 c5 (fun r => some ⟨(.ints 16 r.1), [(.var 3 (.rv [(.ri .u8 c3), (.int .i64 r.2.1), (.int .u64 r.2.2)]))], []⟩) := by kernel_rfl
def spec_l1Cur_board_ent (F : Nat) : Ent := ⟨[], .loud, fun args mem => match args, mem with
  | [(.ptr 0 0 0 3)], [(.var 3 (.rv [(.ri .u8 c3), (.int .i64 c4), (.int .u64 c5)]))] => some ((spec_l1Cur_board_p F c3 c4 c5).isSome, ⟨(.ints 16 ((spec_l1Cur_board_p F c3 c4 c5).getD default).1), [(.var 3 (.rv [(.ri .u8 c3), (.int .i64 ((spec_l1Cur_board_p F c3 c4 c5).getD default).2.1), (.int .u64 ((spec_l1Cur_board_p F c3 c4 c5).getD default).2.2)]))], []⟩)
  | _, _ => none⟩
theorem spec_l1Cur_board_fok : FunOK Try.prog 23 := funOK Try.func23 (by kernel_rfl) rfl
theorem spec_l1Cur_board_meets (F : Nat) : Meets Try.prog 23 (spec_l1Cur_board_ent F) := by
  refine meets_of_runS mixed ttok deep (spec_l1Cur_board_tabok F) Try.func23 (body_some rfl) (spec_l1Cur_board_lsok4 F) fun args mem hfit ret h => ?_
  clear hfit
  simp only [spec_l1Cur_board_ent] at h
  split at h
  · rename_i c3 c4 c5
    simp only [Option.some.injEq, Prod.mk.injEq] at h
    obtain ⟨hc, rfl⟩ := h
    exact ⟨[], [], 70, _, (spec_l1Cur_board_run F c3 c4 c5).trans ((spec_l1Cur_board_cp _ F c3 c4 c5 _).trans (bind_use hc _)), rfl, rfl, rfl⟩
  · cases h

/-! loop.example/g01194/spec.l2Board -/
noncomputable def spec_l2Board_tab (F : Nat) : Tab := [(39, (spec_l1In_ent F))]
theorem spec_l2Board_tabok (F : Nat) : TabOK Try.prog (spec_l2Board_tab F) := (tab_cons (spec_l1In_meets F) spec_l1In_fok tab_nil)
noncomputable def spec_l2Board_LS0 (F : Nat) : LT := []
theorem spec_l2Board_lsok0 (F : Nat) : LoopsOK Try.prog (spec_l2Board_LS0 F) (bodyOf Try.f30) := loopsOK_nil
theorem spec_l2Board_keys : keysOK (bodyOf Try.f30) = true := by kernel_rfl
def spec_l2Board_st5 (r3 : Int) (b5 : List Int) (c4 : Int) : St := ⟨expand 21 0 [1, 3, 4] [(.ptr 0 0 0 16), (.int .i64 r3), (.int .i64 c4)], [(.var 16 (.ri .i64 b5))], 0, []⟩
def spec_l2Board_o5 (r3 : Int) (b5 : List Int) (x : Bool) : GT := (.br x (.out (.ret ⟨expand 21 0 [2] [(.bool false)], [], 0, []⟩)) (.out (.exit 2 ⟨expand 21 0 [1, 3] [(.ptr 0 0 0 16), (.int .i64 r3)], [(.var 16 (.ri .i64 b5))], 0, []⟩)))
def spec_l2Board_ls5 (F : Nat) : LoopS := ⟨21, [1, 3, 4], [], [1, 3], [], [2], [], [], fun vals mem np killed => match vals, mem, np, killed with
  | [(.ptr 0 0 0 16), (.int .i64 r3), (.int .i64 c4)], [(.var 16 (.ri .i64 b5))], 0, [] => .br (spec_l2Board_l5 F r3 b5 c4).isSome (spec_l2Board_o5 r3 b5 ((spec_l2Board_l5 F r3 b5 c4).getD default)) .fail
  | _, _, _, _ => .fail⟩
theorem spec_l2Board_step5 (F : Nat) (r3 : Int) (b5 : List Int) (c4 : Int) {R : Type} (k : Out → Option R) : stepS tt (spec_l2Board_tab F) (spec_l2Board_LS0 F) 70 (spec_l2Board_ls5 F) (loopAt 5 (bodyOf Try.f30)) (spec_l2Board_st5 r3 b5 c4) k = spec_l2Board_s5 F r3 b5 R c4 (fun s => k (.norm (spec_l2Board_st5 r3 b5 s))) (fun x => (spec_l2Board_o5 r3 b5 x).run k) := by kernel_rfl
theorem spec_l2Board_iter5 (F : Nat) (r3 : Int) (b5 : List Int) {R : Type} (k : Out → Option R) : ∀ (n : Nat) (c4 : Int), iterS tt (spec_l2Board_tab F) (spec_l2Board_LS0 F) 70 (spec_l2Board_ls5 F) (loopAt 5 (bodyOf Try.f30)) n (spec_l2Board_st5 r3 b5 c4) k = loopC (spec_l2Board_s5 F r3 b5) n c4 (fun x => (spec_l2Board_o5 r3 b5 x).run k)
  | 0, c4 => rfl
  | n + 1, c4 => (iterS_succ tt (spec_l2Board_tab F) (spec_l2Board_LS0 F) 70 (spec_l2Board_ls5 F) (loopAt 5 (bodyOf Try.f30)) n (spec_l2Board_st5 r3 b5 c4) k).trans ((spec_l2Board_step5 F r3 b5 c4 (nextK (iterS tt (spec_l2Board_tab F) (spec_l2Board_LS0 F) 70 (spec_l2Board_ls5 F) (loopAt 5 (bodyOf Try.f30)) n) k)).trans (congrArg (fun kn => spec_l2Board_s5 F r3 b5 R c4 kn _) (funext (fun c4 => spec_l2Board_iter5 F r3 b5 k n c4))))
theorem spec_l2Board_lok5 (F : Nat) : LoopOK Try.prog (loopAt 5 (bodyOf Try.f30)) (spec_l2Board_ls5 F) := by
  refine loopOK_of mixed ttok deep (spec_l2Board_tabok F) (loopsOK_at (spec_l2Board_lsok0 F) 5) (fuel := 70) fun R vals mem np killed k x h => ?_
  simp only [spec_l2Board_ls5] at h
  split at h
  · rename_i r3 c4 b5
    simp only [GT.run] at h
    have hc := (cond_noneL h).1
    replace h := (cond_noneL h).2
    refine ⟨F, (spec_l2Board_iter5 F r3 b5 k F c4).trans ((loopC_use (spec_l2Board_s5_nat F r3 b5) hc _).trans h)⟩
  · simp only [GT.run] at h
    cases h
noncomputable def spec_l2Board_LS1 (F : Nat) : LT := (5, spec_l2Board_ls5 F) :: spec_l2Board_LS0 F
theorem spec_l2Board_lsok1 (F : Nat) : LoopsOK Try.prog (spec_l2Board_LS1 F) (bodyOf Try.f30) := loopsOK_cons spec_l2Board_keys (spec_l2Board_lok5 F) (spec_l2Board_lsok0 F)
def spec_l2Board_st2 (b4 : List Int) (r3 : Int) : St := ⟨expand 21 0 [1, 3] [(.ptr 0 0 0 16), (.int .i64 r3)], [(.var 16 (.ri .i64 b4))], 0, []⟩
def spec_l2Board_o2 (b4 : List Int) (x : Bool) : GT := (.br x (.out (.ret ⟨expand 21 0 [2] [(.bool false)], [], 0, []⟩)) (.out (.exit 0 ⟨expand 21 0 [] [], [], 0, []⟩)))
def spec_l2Board_ls2 (F : Nat) : LoopS := ⟨21, [1, 3], [], [], [], [2], [], [], fun vals mem np killed => match vals, mem, np, killed with
  | [(.ptr 0 0 0 16), (.int .i64 r3)], [(.var 16 (.ri .i64 b4))], 0, [] => .br (spec_l2Board_l2 F b4 r3).isSome (spec_l2Board_o2 b4 ((spec_l2Board_l2 F b4 r3).getD default)) .fail
  | _, _, _, _ => .fail⟩
theorem spec_l2Board_step2 (F : Nat) (b4 : List Int) (r3 : Int) {R : Type} (k : Out → Option R) : stepS tt (spec_l2Board_tab F) (spec_l2Board_LS1 F) 70 (spec_l2Board_ls2 F) (loopAt 2 (bodyOf Try.f30)) (spec_l2Board_st2 b4 r3) k = spec_l2Board_s2 F b4 R r3 (fun s => k (.norm (spec_l2Board_st2 b4 s))) (fun x => (spec_l2Board_o2 b4 x).run k) := by kernel_rfl
theorem spec_l2Board_iter2 (F : Nat) (b4 : List Int) {R : Type} (k : Out → Option R) : ∀ (n : Nat) (r3 : Int), iterS tt (spec_l2Board_tab F) (spec_l2Board_LS1 F) 70 (spec_l2Board_ls2 F) (loopAt 2 (bodyOf Try.f30)) n (spec_l2Board_st2 b4 r3) k = loopC (spec_l2Board_s2 F b4) n r3 (fun x => (spec_l2Board_o2 b4 x).run k)
  | 0, r3 => rfl
  | n + 1, r3 => (iterS_succ tt (spec_l2Board_tab F) (spec_l2Board_LS1 F) 70 (spec_l2Board_ls2 F) (loopAt 2 (bodyOf Try.f30)) n (spec_l2Board_st2 b4 r3) k).trans ((spec_l2Board_step2 F b4 r3 (nextK (iterS tt (spec_l2Board_tab F) (spec_l2Board_LS1 F) 70 (spec_l2Board_ls2 F) (loopAt 2 (bodyOf Try.f30)) n) k)).trans (congrArg (fun kn => spec_l2Board_s2 F b4 R r3 kn _) (funext (fun r3 => spec_l2Board_iter2 F b4 k n r3))))
theorem spec_l2Board_lok2 (F : Nat) : LoopOK Try.prog (loopAt 2 (bodyOf Try.f30)) (spec_l2Board_ls2 F) := by
  refine loopOK_of mixed ttok deep (spec_l2Board_tabok F) (loopsOK_at (spec_l2Board_lsok1 F) 2) (fuel := 70) fun R vals mem np killed k x h => ?_
  simp only [spec_l2Board_ls2] at h
  split at h
  · rename_i r3 b4
    simp only [GT.run] at h
    have hc := (cond_noneL h).1
    replace h := (cond_noneL h).2
    refine ⟨F, (spec_l2Board_iter2 F b4 k F r3).trans ((loopC_use (spec_l2Board_s2_nat F b4) hc _).trans h)⟩
  · simp only [GT.run] at h
    cases h
noncomputable def spec_l2Board_LS2 (F : Nat) : LT := (2, spec_l2Board_ls2 F) :: spec_l2Board_LS1 F
theorem spec_l2Board_lsok2 (F : Nat) : LoopsOK Try.prog (spec_l2Board_LS2 F) (bodyOf Try.f30) := loopsOK_cons spec_l2Board_keys (spec_l2Board_lok2 F) (spec_l2Board_lsok1 F)
theorem spec_l2Board_run (F : Nat) (b0 : List Int) : runS tt (spec_l2Board_tab F) (spec_l2Board_LS2 F) [] [] Try.f30 (bodyOf Try.f30) 70 [(.ints 16 b0)] [] = spec_l2Board_c _ F b0 (fun r => some ⟨(.bool r), [], []⟩) := by kernel_rfl
def spec_l2Board_ent (F : Nat) : Ent := ⟨[], .quiet, fun args mem => match args, mem with
  | [(.ints 16 b0)], [] => some ((spec_l2Board_p F b0).isSome, ⟨(.bool ((spec_l2Board_p F b0).getD default)), [], []⟩)
  | _, _ => none⟩
theorem spec_l2Board_fok : FunOK Try.prog 30 := funOK Try.func30 (by kernel_rfl) rfl
theorem spec_l2Board_meets (F : Nat) : Meets Try.prog 30 (spec_l2Board_ent F) := by
  refine meets_of_runS mixed ttok deep (spec_l2Board_tabok F) Try.func30 (body_some rfl) (spec_l2Board_lsok2 F) fun args mem hfit ret h => ?_
  clear hfit
  simp only [spec_l2Board_ent] at h
  split at h
  · rename_i b0
    simp only [Option.some.injEq, Prod.mk.injEq] at h
    obtain ⟨hc, rfl⟩ := h
    exact ⟨[], [], 70, _, (spec_l2Board_run F b0).trans ((spec_l2Board_cp _ F b0 _).trans (bind_use hc _)), rfl, rfl, rfl⟩
  · cases h

/-! loop.example/g01194/spec.CountTiles -/
noncomputable def spec_CountTiles_tab (F : Nat) : Tab := [(30, (spec_l2Board_ent F))]
theorem spec_CountTiles_tabok (F : Nat) : TabOK Try.prog (spec_CountTiles_tab F) := (tab_cons (spec_l2Board_meets F) spec_l2Board_fok tab_nil)
noncomputable def spec_CountTiles_LS0 (F : Nat) : LT := []
theorem spec_CountTiles_lsok0 (F : Nat) : LoopsOK Try.prog (spec_CountTiles_LS0 F) (bodyOf Try.f34) := loopsOK_nil
theorem spec_CountTiles_keys : keysOK (bodyOf Try.f34) = true := by kernel_rfl
def spec_CountTiles_st5 (b10 : List Int) (r9 : Int) (out12 : List Int) : St := ⟨expand 31 0 [1, 2, 4, 5] [(.ptr 0 0 0 16), (.ptr 1 0 0 18), (.ptr 2 0 0 18), (.int .i64 r9)], [(.var 16 (.ri .i64 b10)), (.var 18 (.ri .i64 [(0 : Int), (0 : Int), (0 : Int), (0 : Int), (0 : Int), (0 : Int), (0 : Int), (0 : Int), (0 : Int), (0 : Int), (0 : Int), (0 : Int), (0 : Int), (0 : Int), (0 : Int), (0 : Int), (0 : Int), (0 : Int)])), (.var 18 (.ri .i64 out12))], 0, []⟩
def spec_CountTiles_o5 (b10 : List Int) (x : List Int) : GT := (.out (.exit 0 ⟨expand 31 0 [2, 4] [(.ptr 0 0 0 18), (.ptr 1 0 0 18)], [(.var 18 (.ri .i64 [(0 : Int), (0 : Int), (0 : Int), (0 : Int), (0 : Int), (0 : Int), (0 : Int), (0 : Int), (0 : Int), (0 : Int), (0 : Int), (0 : Int), (0 : Int), (0 : Int), (0 : Int), (0 : Int), (0 : Int), (0 : Int)])), (.var 18 (.ri .i64 x))], 0, []⟩))
def spec_CountTiles_ls5 (F : Nat) : LoopS := ⟨31, [1, 2, 4, 5], [], [2, 4], [], [2, 3], [], [], fun vals mem np killed => match vals, mem, np, killed with
  | [(.ptr 0 0 0 16), (.ptr 1 0 0 18), (.ptr 2 0 0 18), (.int .i64 r9)], [(.var 16 (.ri .i64 b10)), (.var 18 (.ri .i64 q_t211)), (.var 18 (.ri .i64 out12))], 0, [] => .br ((q_t211 == ([(0 : Int), (0 : Int), (0 : Int), (0 : Int), (0 : Int), (0 : Int), (0 : Int), (0 : Int), (0 : Int), (0 : Int), (0 : Int), (0 : Int), (0 : Int), (0 : Int), (0 : Int), (0 : Int), (0 : Int), (0 : Int)] : List Int)) && (spec_CountTiles_l5 F b10 r9 out12).isSome) (spec_CountTiles_o5 b10 ((spec_CountTiles_l5 F b10 r9 out12).getD default)) .fail
  | _, _, _, _ => .fail⟩
theorem spec_CountTiles_step5 (F : Nat) (b10 : List Int) (r9 : Int) (out12 : List Int) {R : Type} (k : Out → Option R) : stepS tt (spec_CountTiles_tab F) (spec_CountTiles_LS0 F) 70 (spec_CountTiles_ls5 F) (loopAt 5 (bodyOf Try.f34)) (spec_CountTiles_st5 b10 r9 out12) k = spec_CountTiles_s5 F b10 R (r9, out12) (fun s => k (.norm (spec_CountTiles_st5 b10 s.1 s.2))) (fun x => (spec_CountTiles_o5 b10 x).run k) := by kernel_rfl
theorem spec_CountTiles_iter5 (F : Nat) (b10 : List Int) {R : Type} (k : Out → Option R) : ∀ (n : Nat) (r9 : Int) (out12 : List Int), iterS tt (spec_CountTiles_tab F) (spec_CountTiles_LS0 F) 70 (spec_CountTiles_ls5 F) (loopAt 5 (bodyOf Try.f34)) n (spec_CountTiles_st5 b10 r9 out12) k = loopC (spec_CountTiles_s5 F b10) n (r9, out12) (fun x => (spec_CountTiles_o5 b10 x).run k)
  | 0, r9, out12 => rfl
  | n + 1, r9, out12 => (iterS_succ tt (spec_CountTiles_tab F) (spec_CountTiles_LS0 F) 70 (spec_CountTiles_ls5 F) (loopAt 5 (bodyOf Try.f34)) n (spec_CountTiles_st5 b10 r9 out12) k).trans ((spec_CountTiles_step5 F b10 r9 out12 (nextK (iterS tt (spec_CountTiles_tab F) (spec_CountTiles_LS0 F) 70 (spec_CountTiles_ls5 F) (loopAt 5 (bodyOf Try.f34)) n) k)).trans (congrArg (fun kn => spec_CountTiles_s5 F b10 R (r9, out12) kn _) (funext (fun ⟨r9, out12⟩ => spec_CountTiles_iter5 F b10 k n r9 out12))))
theorem spec_CountTiles_lok5 (F : Nat) : LoopOK Try.prog (loopAt 5 (bodyOf Try.f34)) (spec_CountTiles_ls5 F) := by
  refine loopOK_of mixed ttok deep (spec_CountTiles_tabok F) (loopsOK_at (spec_CountTiles_lsok0 F) 5) (fuel := 70) fun R vals mem np killed k x h => ?_
  simp only [spec_CountTiles_ls5] at h
  split at h
  · rename_i r9 b10 q_t211 out12
    simp only [GT.run] at h
    have hc := (cond_noneL h).1
    replace h := (cond_noneL h).2
    have hg := (and_split hc).1
    replace hc := (and_split hc).2
    obtain rfl := beq_li hg
    refine ⟨F, (spec_CountTiles_iter5 F b10 k F r9 out12).trans ((loopC_use (spec_CountTiles_s5_nat F b10) hc _).trans h)⟩
  · simp only [GT.run] at h
    cases h
noncomputable def spec_CountTiles_LS1 (F : Nat) : LT := (5, spec_CountTiles_ls5 F) :: spec_CountTiles_LS0 F
theorem spec_CountTiles_lsok1 (F : Nat) : LoopsOK Try.prog (spec_CountTiles_LS1 F) (bodyOf Try.f34) := loopsOK_cons spec_CountTiles_keys (spec_CountTiles_lok5 F) (spec_CountTiles_lsok0 F)
theorem spec_CountTiles_run (F : Nat) (b0 : List Int) : runS tt (spec_CountTiles_tab F) (spec_CountTiles_LS1 F) [] [] Try.f34 (bodyOf Try.f34) 70 [(.ints 16 b0)] [] = spec_CountTiles_c _ F b0 (fun r => some ⟨(.tup [(.ints 18 r.1), (.bool r.2)]), [], []⟩) := by kernel_rfl
def spec_CountTiles_ent (F : Nat) : Ent := ⟨[], .quiet, fun args mem => match args, mem with
  | [(.ints 16 b0)], [] => some ((spec_CountTiles_p F b0).isSome, ⟨(.tup [(.ints 18 ((spec_CountTiles_p F b0).getD default).1), (.bool ((spec_CountTiles_p F b0).getD default).2)]), [], []⟩)
  | _, _ => none⟩
theorem spec_CountTiles_fok : FunOK Try.prog 34 := funOK Try.func34 (by kernel_rfl) rfl
theorem spec_CountTiles_meets (F : Nat) : Meets Try.prog 34 (spec_CountTiles_ent F) := by
  refine meets_of_runS mixed ttok deep (spec_CountTiles_tabok F) Try.func34 (body_some rfl) (spec_CountTiles_lsok1 F) fun args mem hfit ret h => ?_
  clear hfit
  simp only [spec_CountTiles_ent] at h
  split at h
  · rename_i b0
    simp only [Option.some.injEq, Prod.mk.injEq] at h
    obtain ⟨hc, rfl⟩ := h
    exact ⟨[], [], 70, _, (spec_CountTiles_run F b0).trans ((spec_CountTiles_cp _ F b0 _).trans (bind_use hc _)), rfl, rfl, rfl⟩
  · cases h

/-! loop.example/g01194/spec.l2Put -/
noncomputable def spec_l2Put_tab (F : Nat) : Tab := []
theorem spec_l2Put_tabok (F : Nat) : TabOK Try.prog (spec_l2Put_tab F) := tab_nil
noncomputable def spec_l2Put_LS0 (F : Nat) : LT := []
theorem spec_l2Put_lsok0 (F : Nat) : LoopsOK Try.prog (spec_l2Put_LS0 F) (bodyOf Try.f26) := loopsOK_nil
theorem spec_l2Put_run (F : Nat) (b0 : List Int) (cell1 : List Int) (t2 : Int) : runS tt (spec_l2Put_tab F) (spec_l2Put_LS0 F) [] [] Try.f26 (bodyOf Try.f26) 70 [(.ints 16 b0), (.ints 2 cell1), (.int .i64 t2)] [] = spec_l2Put_c _ b0 cell1 t2 (fun r => some ⟨(.ints 16 r), [], []⟩) := by kernel_rfl
def spec_l2Put_ent (F : Nat) : Ent := ⟨[], .quiet, fun args mem => match args, mem with
  | [(.ints 16 b0), (.ints 2 cell1), (.int .i64 t2)], [] => some ((spec_l2Put_p b0 cell1 t2).isSome, ⟨(.ints 16 ((spec_l2Put_p b0 cell1 t2).getD default)), [], []⟩)
  | _, _ => none⟩
theorem spec_l2Put_fok : FunOK Try.prog 26 := funOK Try.func26 (by kernel_rfl) rfl
theorem spec_l2Put_meets (F : Nat) : Meets Try.prog 26 (spec_l2Put_ent F) := by
  refine meets_of_runS mixed ttok deep (spec_l2Put_tabok F) Try.func26 (body_some rfl) (spec_l2Put_lsok0 F) fun args mem hfit ret h => ?_
  clear hfit
  simp only [spec_l2Put_ent] at h
  split at h
  · rename_i b0 cell1 t2
    simp only [Option.some.injEq, Prod.mk.injEq] at h
    obtain ⟨hc, rfl⟩ := h
    exact ⟨[], [], 70, _, (spec_l2Put_run F b0 cell1 t2).trans ((spec_l2Put_cp _ b0 cell1 t2 _).trans (bind_use hc _)), rfl, rfl, rfl⟩
  · cases h

/-! loop.example/g01194/spec.SnakeBoard -/
noncomputable def spec_SnakeBoard_tab (F : Nat) : Tab := [(34, (spec_CountTiles_ent F)), (21, (spec_l3Form_ent F)), (22, (spec_l7Snake_ent F)), (26, (spec_l2Put_ent F))]
theorem spec_SnakeBoard_tabok (F : Nat) : TabOK Try.prog (spec_SnakeBoard_tab F) := (tab_cons (spec_CountTiles_meets F) spec_CountTiles_fok (tab_cons (spec_l3Form_meets F) spec_l3Form_fok (tab_cons (spec_l7Snake_meets F) spec_l7Snake_fok (tab_cons (spec_l2Put_meets F) spec_l2Put_fok tab_nil))))
noncomputable def spec_SnakeBoard_LS0 (F : Nat) : LT := []
theorem spec_SnakeBoard_lsok0 (F : Nat) : LoopsOK Try.prog (spec_SnakeBoard_LS0 F) (bodyOf Try.f14) := loopsOK_nil
theorem spec_SnakeBoard_keys : keysOK (bodyOf Try.f14) = true := by kernel_rfl
def spec_SnakeBoard_st9 (t13 : Int) (counts16 : List Int) (path18 : List Int) (n12 : Int) (i14 : Int) (out17 : List Int) : St := ⟨expand 49 0 [4, 6, 8, 9, 10, 11, 12] [(.ptr 0 0 0 16), (.ptr 1 0 0 18), (.ptr 2 0 0 16), (.ptr 3 0 0 32), (.int .i64 n12), (.int .i64 t13), (.int .i64 i14)], [(.var 16 (.ri .i64 [(0 : Int), (0 : Int), (0 : Int), (0 : Int), (0 : Int), (0 : Int), (0 : Int), (0 : Int), (0 : Int), (0 : Int), (0 : Int), (0 : Int), (0 : Int), (0 : Int), (0 : Int), (0 : Int)])), (.var 18 (.ri .i64 counts16)), (.var 16 (.ri .i64 out17)), (.var 32 (.ri .i64 path18))], 0, []⟩
def spec_SnakeBoard_o9 (t13 : Int) (counts16 : List Int) (path18 : List Int) (x : Int × List Int) : GT := (.out (.exit 2 ⟨expand 49 0 [4, 6, 8, 9, 10, 11] [(.ptr 0 0 0 16), (.ptr 1 0 0 18), (.ptr 2 0 0 16), (.ptr 3 0 0 32), (.int .i64 x.1), (.int .i64 t13)], [(.var 16 (.ri .i64 [(0 : Int), (0 : Int), (0 : Int), (0 : Int), (0 : Int), (0 : Int), (0 : Int), (0 : Int), (0 : Int), (0 : Int), (0 : Int), (0 : Int), (0 : Int), (0 : Int), (0 : Int), (0 : Int)])), (.var 18 (.ri .i64 counts16)), (.var 16 (.ri .i64 x.2)), (.var 32 (.ri .i64 path18))], 0, []⟩))
def spec_SnakeBoard_ls9 (F : Nat) : LoopS := ⟨49, [4, 6, 8, 9, 10, 11, 12], [], [4, 6, 8, 9, 10, 11], [], [4, 5], [], [], fun vals mem np killed => match vals, mem, np, killed with
  | [(.ptr 0 0 0 16), (.ptr 1 0 0 18), (.ptr 2 0 0 16), (.ptr 3 0 0 32), (.int .i64 n12), (.int .i64 t13), (.int .i64 i14)], [(.var 16 (.ri .i64 q_t415)), (.var 18 (.ri .i64 counts16)), (.var 16 (.ri .i64 out17)), (.var 32 (.ri .i64 path18))], 0, [] => .br ((q_t415 == ([(0 : Int), (0 : Int), (0 : Int), (0 : Int), (0 : Int), (0 : Int), (0 : Int), (0 : Int), (0 : Int), (0 : Int), (0 : Int), (0 : Int), (0 : Int), (0 : Int), (0 : Int), (0 : Int)] : List Int)) && (spec_SnakeBoard_l9 F t13 counts16 path18 n12 i14 out17).isSome) (spec_SnakeBoard_o9 t13 counts16 path18 ((spec_SnakeBoard_l9 F t13 counts16 path18 n12 i14 out17).getD default)) .fail
  | _, _, _, _ => .fail⟩
theorem spec_SnakeBoard_step9 (F : Nat) (t13 : Int) (counts16 : List Int) (path18 : List Int) (n12 : Int) (i14 : Int) (out17 : List Int) {R : Type} (k : Out → Option R) : stepS tt (spec_SnakeBoard_tab F) (spec_SnakeBoard_LS0 F) 70 (spec_SnakeBoard_ls9 F) (loopAt 9 (bodyOf Try.f14)) (spec_SnakeBoard_st9 t13 counts16 path18 n12 i14 out17) k = spec_SnakeBoard_s9 F t13 counts16 path18 R (n12, i14, out17) (fun s => k (.norm (spec_SnakeBoard_st9 t13 counts16 path18 s.1 s.2.1 s.2.2))) (fun x => (spec_SnakeBoard_o9 t13 counts16 path18 x).run k) := by kernel_rfl
theorem spec_SnakeBoard_iter9 (F : Nat) (t13 : Int) (counts16 : List Int) (path18 : List Int) {R : Type} (k : Out → Option R) : ∀ (n : Nat) (n12 : Int) (i14 : Int) (out17 : List Int), iterS tt (spec_SnakeBoard_tab F) (spec_SnakeBoard_LS0 F) 70 (spec_SnakeBoard_ls9 F) (loopAt 9 (bodyOf Try.f14)) n (spec_SnakeBoard_st9 t13 counts16 path18 n12 i14 out17) k = loopC (spec_SnakeBoard_s9 F t13 counts16 path18) n (n12, i14, out17) (fun x => (spec_SnakeBoard_o9 t13 counts16 path18 x).run k)
  | 0, n12, i14, out17 => rfl
  | n + 1, n12, i14, out17 => (iterS_succ tt (spec_SnakeBoard_tab F) (spec_SnakeBoard_LS0 F) 70 (spec_SnakeBoard_ls9 F) (loopAt 9 (bodyOf Try.f14)) n (spec_SnakeBoard_st9 t13 counts16 path18 n12 i14 out17) k).trans ((spec_SnakeBoard_step9 F t13 counts16 path18 n12 i14 out17 (nextK (iterS tt (spec_SnakeBoard_tab F) (spec_SnakeBoard_LS0 F) 70 (spec_SnakeBoard_ls9 F) (loopAt 9 (bodyOf Try.f14)) n) k)).trans (congrArg (fun kn => spec_SnakeBoard_s9 F t13 counts16 path18 R (n12, i14, out17) kn _) (funext (fun ⟨n12, i14, out17⟩ => spec_SnakeBoard_iter9 F t13 counts16 path18 k n n12 i14 out17))))
theorem spec_SnakeBoard_lok9 (F : Nat) : LoopOK Try.prog (loopAt 9 (bodyOf Try.f14)) (spec_SnakeBoard_ls9 F) := by
  refine loopOK_of mixed ttok deep (spec_SnakeBoard_tabok F) (loopsOK_at (spec_SnakeBoard_lsok0 F) 9) (fuel := 70) fun R vals mem np killed k x h => ?_
  simp only [spec_SnakeBoard_ls9] at h
  split at h
  · rename_i n12 t13 i14 q_t415 counts16 out17 path18
    simp only [GT.run] at h
    have hc := (cond_noneL h).1
    replace h := (cond_noneL h).2
    have hg := (and_split hc).1
    replace hc := (and_split hc).2
    obtain rfl := beq_li hg
    refine ⟨F, (spec_SnakeBoard_iter9 F t13 counts16 path18 k F n12 i14 out17).trans ((loopC_use (spec_SnakeBoard_s9_nat F t13 counts16 path18) hc _).trans h)⟩
  · simp only [GT.run] at h
    cases h
noncomputable def spec_SnakeBoard_LS1 (F : Nat) : LT := (9, spec_SnakeBoard_ls9 F) :: spec_SnakeBoard_LS0 F
theorem spec_SnakeBoard_lsok1 (F : Nat) : LoopsOK Try.prog (spec_SnakeBoard_LS1 F) (bodyOf Try.f14) := loopsOK_cons spec_SnakeBoard_keys (spec_SnakeBoard_lok9 F) (spec_SnakeBoard_lsok0 F)
def spec_SnakeBoard_st6 (counts15 : List Int) (path17 : List Int) (n12 : Int) (t13 : Int) (out16 : List Int) : St := ⟨expand 49 0 [4, 6, 8, 9, 10, 11] [(.ptr 0 0 0 16), (.ptr 1 0 0 18), (.ptr 2 0 0 16), (.ptr 3 0 0 32), (.int .i64 n12), (.int .i64 t13)], [(.var 16 (.ri .i64 [(0 : Int), (0 : Int), (0 : Int), (0 : Int), (0 : Int), (0 : Int), (0 : Int), (0 : Int), (0 : Int), (0 : Int), (0 : Int), (0 : Int), (0 : Int), (0 : Int), (0 : Int), (0 : Int)])), (.var 18 (.ri .i64 counts15)), (.var 16 (.ri .i64 out16)), (.var 32 (.ri .i64 path17))], 0, []⟩
def spec_SnakeBoard_o6 (counts15 : List Int) (path17 : List Int) (x : List Int) : GT := (.out (.exit 0 ⟨expand 49 0 [4, 8] [(.ptr 0 0 0 16), (.ptr 1 0 0 16)], [(.var 16 (.ri .i64 [(0 : Int), (0 : Int), (0 : Int), (0 : Int), (0 : Int), (0 : Int), (0 : Int), (0 : Int), (0 : Int), (0 : Int), (0 : Int), (0 : Int), (0 : Int), (0 : Int), (0 : Int), (0 : Int)])), (.var 16 (.ri .i64 x))], 0, []⟩))
def spec_SnakeBoard_ls6 (F : Nat) : LoopS := ⟨49, [4, 6, 8, 9, 10, 11], [], [4, 8], [], [4, 5], [], [], fun vals mem np killed => match vals, mem, np, killed with
  | [(.ptr 0 0 0 16), (.ptr 1 0 0 18), (.ptr 2 0 0 16), (.ptr 3 0 0 32), (.int .i64 n12), (.int .i64 t13)], [(.var 16 (.ri .i64 q_t414)), (.var 18 (.ri .i64 counts15)), (.var 16 (.ri .i64 out16)), (.var 32 (.ri .i64 path17))], 0, [] => .br ((q_t414 == ([(0 : Int), (0 : Int), (0 : Int), (0 : Int), (0 : Int), (0 : Int), (0 : Int), (0 : Int), (0 : Int), (0 : Int), (0 : Int), (0 : Int), (0 : Int), (0 : Int), (0 : Int), (0 : Int)] : List Int)) && (spec_SnakeBoard_l6 F counts15 path17 n12 t13 out16).isSome) (spec_SnakeBoard_o6 counts15 path17 ((spec_SnakeBoard_l6 F counts15 path17 n12 t13 out16).getD default)) .fail
  | _, _, _, _ => .fail⟩
theorem spec_SnakeBoard_step6 (F : Nat) (counts15 : List Int) (path17 : List Int) (n12 : Int) (t13 : Int) (out16 : List Int) {R : Type} (k : Out → Option R) : stepS tt (spec_SnakeBoard_tab F) (spec_SnakeBoard_LS1 F) 70 (spec_SnakeBoard_ls6 F) (loopAt 6 (bodyOf Try.f14)) (spec_SnakeBoard_st6 counts15 path17 n12 t13 out16) k = spec_SnakeBoard_s6 F counts15 path17 R (n12, t13, out16) (fun s => k (.norm (spec_SnakeBoard_st6 counts15 path17 s.1 s.2.1 s.2.2))) (fun x => (spec_SnakeBoard_o6 counts15 path17 x).run k) := by kernel_rfl
theorem spec_SnakeBoard_iter6 (F : Nat) (counts15 : List Int) (path17 : List Int) {R : Type} (k : Out → Option R) : ∀ (n : Nat) (n12 : Int) (t13 : Int) (out16 : List Int), iterS tt (spec_SnakeBoard_tab F) (spec_SnakeBoard_LS1 F) 70 (spec_SnakeBoard_ls6 F) (loopAt 6 (bodyOf Try.f14)) n (spec_SnakeBoard_st6 counts15 path17 n12 t13 out16) k = loopC (spec_SnakeBoard_s6 F counts15 path17) n (n12, t13, out16) (fun x => (spec_SnakeBoard_o6 counts15 path17 x).run k)
  | 0, n12, t13, out16 => rfl
  | n + 1, n12, t13, out16 => (iterS_succ tt (spec_SnakeBoard_tab F) (spec_SnakeBoard_LS1 F) 70 (spec_SnakeBoard_ls6 F) (loopAt 6 (bodyOf Try.f14)) n (spec_SnakeBoard_st6 counts15 path17 n12 t13 out16) k).trans ((spec_SnakeBoard_step6 F counts15 path17 n12 t13 out16 (nextK (iterS tt (spec_SnakeBoard_tab F) (spec_SnakeBoard_LS1 F) 70 (spec_SnakeBoard_ls6 F) (loopAt 6 (bodyOf Try.f14)) n) k)).trans (congrArg (fun kn => spec_SnakeBoard_s6 F counts15 path17 R (n12, t13, out16) kn _) (funext (fun ⟨n12, t13, out16⟩ => spec_SnakeBoard_iter6 F counts15 path17 k n n12 t13 out16))))
theorem spec_SnakeBoard_lok6 (F : Nat) : LoopOK Try.prog (loopAt 6 (bodyOf Try.f14)) (spec_SnakeBoard_ls6 F) := by
  refine loopOK_of mixed ttok deep (spec_SnakeBoard_tabok F) (loopsOK_at (spec_SnakeBoard_lsok1 F) 6) (fuel := 70) fun R vals mem np killed k x h => ?_
  simp only [spec_SnakeBoard_ls6] at h
  split at h
  · rename_i n12 t13 q_t414 counts15 out16 path17
    simp only [GT.run] at h
    have hc := (cond_noneL h).1
    replace h := (cond_noneL h).2
    have hg := (and_split hc).1
    replace hc := (and_split hc).2
    obtain rfl := beq_li hg
    refine ⟨F, (spec_SnakeBoard_iter6 F counts15 path17 k F n12 t13 out16).trans ((loopC_use (spec_SnakeBoard_s6_nat F counts15 path17) hc _).trans h)⟩
  · simp only [GT.run] at h
    cases h
noncomputable def spec_SnakeBoard_LS2 (F : Nat) : LT := (6, spec_SnakeBoard_ls6 F) :: spec_SnakeBoard_LS1 F
theorem spec_SnakeBoard_lsok2 (F : Nat) : LoopsOK Try.prog (spec_SnakeBoard_LS2 F) (bodyOf Try.f14) := loopsOK_cons spec_SnakeBoard_keys (spec_SnakeBoard_lok6 F) (spec_SnakeBoard_lsok1 F)
theorem spec_SnakeBoard_run (F : Nat) (b0 : List Int) (k1 : Int) : runS tt (spec_SnakeBoard_tab F) (spec_SnakeBoard_LS2 F) [] [] Try.f14 (bodyOf Try.f14) 70 [(.ints 16 b0), (.int .i64 k1)] [] = spec_SnakeBoard_c _ F b0 k1 (fun r => some ⟨(.tup [(.ints 16 r.1), (.bool r.2)]), [], []⟩) := by kernel_rfl
def spec_SnakeBoard_ent (F : Nat) : Ent := ⟨[], .quiet, fun args mem => match args, mem with
  | [(.ints 16 b0), (.int .i64 k1)], [] => some ((spec_SnakeBoard_p F b0 k1).isSome, ⟨(.tup [(.ints 16 ((spec_SnakeBoard_p F b0 k1).getD default).1), (.bool ((spec_SnakeBoard_p F b0 k1).getD default).2)]), [], []⟩)
  | _, _ => none⟩
theorem spec_SnakeBoard_fok : FunOK Try.prog 14 := funOK Try.func14 (by kernel_rfl) rfl
theorem spec_SnakeBoard_meets (F : Nat) : Meets Try.prog 14 (spec_SnakeBoard_ent F) := by
  refine meets_of_runS mixed ttok deep (spec_SnakeBoard_tabok F) Try.func14 (body_some rfl) (spec_SnakeBoard_lsok2 F) fun args mem hfit ret h => ?_
  clear hfit
  simp only [spec_SnakeBoard_ent] at h
  split at h
  · rename_i b0 k1
    simp only [Option.some.injEq, Prod.mk.injEq] at h
    obtain ⟨hc, rfl⟩ := h
    exact ⟨[], [], 70, _, (spec_SnakeBoard_run F b0 k1).trans ((spec_SnakeBoard_cp _ F b0 k1 _).trans (bind_use hc _)), rfl, rfl, rfl⟩
  · cases h

/-! loop.example/g01194/spec.DrawSnakesOf -/
noncomputable def spec_DrawSnakesOf_tab (F : Nat) : Tab := [(23, (spec_l1Cur_board_ent F)), (24, (spec_l1Cur_pick_ent F)), (14, (spec_SnakeBoard_ent F)), (25, (spec_l1Cur_one_ent F)), (26, (spec_l2Put_ent F))]
theorem spec_DrawSnakesOf_tabok (F : Nat) : TabOK Try.prog (spec_DrawSnakesOf_tab F) := (tab_cons (spec_l1Cur_board_meets F) spec_l1Cur_board_fok (tab_cons (spec_l1Cur_pick_meets F) spec_l1Cur_pick_fok (tab_cons (spec_SnakeBoard_meets F) spec_SnakeBoard_fok (tab_cons (spec_l1Cur_one_meets F) spec_l1Cur_one_fok (tab_cons (spec_l2Put_meets F) spec_l2Put_fok tab_nil)))))
noncomputable def spec_DrawSnakesOf_LS0 (F : Nat) : LT := []
theorem spec_DrawSnakesOf_lsok0 (F : Nat) : LoopsOK Try.prog (spec_DrawSnakesOf_LS0 F) (bodyOf Try.f8) := loopsOK_nil
theorem spec_DrawSnakesOf_run (F : Nat) (code0 : List Int) : runS tt (spec_DrawSnakesOf_tab F) (spec_DrawSnakesOf_LS0 F) [] [] Try.f8 (bodyOf Try.f8) 70 [(.ri .u8 code0)] [] = spec_DrawSnakesOf_c _ F code0 (fun r => some ⟨(.ints 16 r), [], []⟩) := by kernel_rfl
def spec_DrawSnakesOf_ent (F : Nat) : Ent := ⟨[], .quiet, fun args mem => match args, mem with
  | [(.ri .u8 code0)], [] => some ((spec_DrawSnakesOf_p F code0).isSome, ⟨(.ints 16 ((spec_DrawSnakesOf_p F code0).getD default)), [], []⟩)
  | _, _ => none⟩
theorem spec_DrawSnakesOf_fok : FunOK Try.prog 8 := funOK Try.func8 (by kernel_rfl) rfl
theorem spec_DrawSnakesOf_meets (F : Nat) : Meets Try.prog 8 (spec_DrawSnakesOf_ent F) := by
  refine meets_of_runS mixed ttok deep (spec_DrawSnakesOf_tabok F) Try.func8 (body_some rfl) (spec_DrawSnakesOf_lsok0 F) fun args mem hfit ret h => ?_
  clear hfit
  simp only [spec_DrawSnakesOf_ent] at h
  split at h
  · rename_i code0
    simp only [Option.some.injEq, Prod.mk.injEq] at h
    obtain ⟨hc, rfl⟩ := h
    exact ⟨[], [], 70, _, (spec_DrawSnakesOf_run F code0).trans ((spec_DrawSnakesOf_cp _ F code0 _).trans (bind_use hc _)), rfl, rfl, rfl⟩
  · cases h

/-! loop.example/g01194/impl.IsRow$1 -/
noncomputable def impl_IsRow_f1_tab (F : Nat) : Tab := [(37, (impl_in_ent F))]
theorem impl_IsRow_f1_tabok (F : Nat) : TabOK Try.prog (impl_IsRow_f1_tab F) := (tab_cons (impl_in_meets F) impl_in_fok tab_nil)
noncomputable def impl_IsRow_f1_LS0 (F : Nat) : LT := []
theorem impl_IsRow_f1_lsok0 (F : Nat) : LoopsOK Try.prog (impl_IsRow_f1_LS0 F) (bodyOf Try.f55) := loopsOK_nil
theorem impl_IsRow_f1_run (F : Nat) (n0 : Int) : runS tt (impl_IsRow_f1_tab F) (impl_IsRow_f1_LS0 F) [] [] Try.f55 (bodyOf Try.f55) 70 [(.int .i64 n0)] [] = impl_IsRow_f1_c _ n0 (fun r => some ⟨(.bool r), [], []⟩) := by kernel_rfl
def impl_IsRow_f1_ent (F : Nat) : Ent := ⟨[], .quiet, fun args mem => match args, mem with
  | [(.int .i64 n0)], [] => some (true, ⟨(.bool (impl_IsRow_f1_v n0)), [], []⟩)
  | _, _ => none⟩
theorem impl_IsRow_f1_fok : FunOK Try.prog 55 := funOK Try.func55 (by kernel_rfl) rfl
theorem impl_IsRow_f1_meets (F : Nat) : Meets Try.prog 55 (impl_IsRow_f1_ent F) := by
  refine meets_of_runS mixed ttok deep (impl_IsRow_f1_tabok F) Try.func55 (body_some rfl) (impl_IsRow_f1_lsok0 F) fun args mem hfit ret h => ?_
  clear hfit
  simp only [impl_IsRow_f1_ent] at h
  split at h
  · rename_i n0
    simp only [Option.some.injEq, Prod.mk.injEq] at h
    obtain ⟨hc, rfl⟩ := h
    exact ⟨[], [], 70, _, (impl_IsRow_f1_run F n0).trans (impl_IsRow_f1_cv _ n0 _), rfl, rfl, rfl⟩
  · cases h

/-! slices.IndexFunc[[]int,int] -/
noncomputable def slices_IndexFunc_intint_impl_IsRow_f1_tab (F : Nat) : Tab := [(55, (impl_IsRow_f1_ent F))]
theorem slices_IndexFunc_intint_impl_IsRow_f1_tabok (F : Nat) : TabOK Try.prog (slices_IndexFunc_intint_impl_IsRow_f1_tab F) := (tab_cons (impl_IsRow_f1_meets F) impl_IsRow_f1_fok tab_nil)
noncomputable def slices_IndexFunc_intint_impl_IsRow_f1_LS0 (F : Nat) : LT := []
theorem slices_IndexFunc_intint_impl_IsRow_f1_lsok0 (F : Nat) : LoopsOK Try.prog (slices_IndexFunc_intint_impl_IsRow_f1_LS0 F) (bodyOf Try.f68) := loopsOK_nil
theorem slices_IndexFunc_intint_impl_IsRow_f1_keys : keysOK (bodyOf Try.f68) = true := by kernel_rfl
def slices_IndexFunc_intint_impl_IsRow_f1_st2 (s0 : List Int) (t71 : Int) (t82 : Int) : St := ⟨expand 19 0 [0, 1, 7, 8] [(.ri .i64 s0), (.fn 55 [] []), (.int .i64 t71), (.int .i64 t82)], [], 0, []⟩
def slices_IndexFunc_intint_impl_IsRow_f1_o2 (s0 : List Int) (t71 : Int) (x : Bool × Int) : GT := (.br x.1 (.out (.ret ⟨expand 19 0 [4] [(.int .i64 x.2)], [], 0, []⟩)) (.out (.exit 0 ⟨expand 19 0 [] [], [], 0, []⟩)))
def slices_IndexFunc_intint_impl_IsRow_f1_ls2 (F : Nat) : LoopS := ⟨19, [0, 1, 7, 8], [], [], [], [4], [], [], fun vals mem np killed => match vals, mem, np, killed with
  | [(.ri .i64 s0), (.fn 55 [] []), (.int .i64 t71), (.int .i64 t82)], [], 0, [] => .br (slices_IndexFunc_intint_impl_IsRow_f1_l2 F s0 t71 t82).isSome (slices_IndexFunc_intint_impl_IsRow_f1_o2 s0 t71 ((slices_IndexFunc_intint_impl_IsRow_f1_l2 F s0 t71 t82).getD default)) .fail
  | _, _, _, _ => .fail⟩
theorem slices_IndexFunc_intint_impl_IsRow_f1_step2 (F : Nat) (s0 : List Int) (t71 : Int) (t82 : Int) {R : Type} (k : Out → Option R) : stepS tt (slices_IndexFunc_intint_impl_IsRow_f1_tab F) (slices_IndexFunc_intint_impl_IsRow_f1_LS0 F) 70 (slices_IndexFunc_intint_impl_IsRow_f1_ls2 F) (loopAt 2 (bodyOf Try.f68)) (slices_IndexFunc_intint_impl_IsRow_f1_st2 s0 t71 t82) k = slices_IndexFunc_intint_impl_IsRow_f1_s2 F s0 t71 R t82 (fun s => k (.norm (slices_IndexFunc_intint_impl_IsRow_f1_st2 s0 t71 s))) (fun x => (slices_IndexFunc_intint_impl_IsRow_f1_o2 s0 t71 x).run k) := by kernel_rfl
theorem slices_IndexFunc_intint_impl_IsRow_f1_iter2 (F : Nat) (s0 : List Int) (t71 : Int) {R : Type} (k : Out → Option R) : ∀ (n : Nat) (t82 : Int), iterS tt (slices_IndexFunc_intint_impl_IsRow_f1_tab F) (slices_IndexFunc_intint_impl_IsRow_f1_LS0 F) 70 (slices_IndexFunc_intint_impl_IsRow_f1_ls2 F) (loopAt 2 (bodyOf Try.f68)) n (slices_IndexFunc_intint_impl_IsRow_f1_st2 s0 t71 t82) k = loopC (slices_IndexFunc_intint_impl_IsRow_f1_s2 F s0 t71) n t82 (fun x => (slices_IndexFunc_intint_impl_IsRow_f1_o2 s0 t71 x).run k)
  | 0, t82 => rfl
  | n + 1, t82 => (iterS_succ tt (slices_IndexFunc_intint_impl_IsRow_f1_tab F) (slices_IndexFunc_intint_impl_IsRow_f1_LS0 F) 70 (slices_IndexFunc_intint_impl_IsRow_f1_ls2 F) (loopAt 2 (bodyOf Try.f68)) n (slices_IndexFunc_intint_impl_IsRow_f1_st2 s0 t71 t82) k).trans ((slices_IndexFunc_intint_impl_IsRow_f1_step2 F s0 t71 t82 (nextK (iterS tt (slices_IndexFunc_intint_impl_IsRow_f1_tab F) (slices_IndexFunc_intint_impl_IsRow_f1_LS0 F) 70 (slices_IndexFunc_intint_impl_IsRow_f1_ls2 F) (loopAt 2 (bodyOf Try.f68)) n) k)).trans (congrArg (fun kn => slices_IndexFunc_intint_impl_IsRow_f1_s2 F s0 t71 R t82 kn _) (funext (fun t82 => slices_IndexFunc_intint_impl_IsRow_f1_iter2 F s0 t71 k n t82))))
theorem slices_IndexFunc_intint_impl_IsRow_f1_lok2 (F : Nat) : LoopOK Try.prog (loopAt 2 (bodyOf Try.f68)) (slices_IndexFunc_intint_impl_IsRow_f1_ls2 F) := by
  refine loopOK_of mixed ttok deep (slices_IndexFunc_intint_impl_IsRow_f1_tabok F) (loopsOK_at (slices_IndexFunc_intint_impl_IsRow_f1_lsok0 F) 2) (fuel := 70) fun R vals mem np killed k x h => ?_
  simp only [slices_IndexFunc_intint_impl_IsRow_f1_ls2] at h
  split at h
  · rename_i s0 t71 t82
    simp only [GT.run] at h
    have hc := (cond_noneL h).1
    replace h := (cond_noneL h).2
    refine ⟨F, (slices_IndexFunc_intint_impl_IsRow_f1_iter2 F s0 t71 k F t82).trans ((loopC_use (slices_IndexFunc_intint_impl_IsRow_f1_s2_nat F s0 t71) hc _).trans h)⟩
  · simp only [GT.run] at h
    cases h
noncomputable def slices_IndexFunc_intint_impl_IsRow_f1_LS1 (F : Nat) : LT := (2, slices_IndexFunc_intint_impl_IsRow_f1_ls2 F) :: slices_IndexFunc_intint_impl_IsRow_f1_LS0 F
theorem slices_IndexFunc_intint_impl_IsRow_f1_lsok1 (F : Nat) : LoopsOK Try.prog (slices_IndexFunc_intint_impl_IsRow_f1_LS1 F) (bodyOf Try.f68) := loopsOK_cons slices_IndexFunc_intint_impl_IsRow_f1_keys (slices_IndexFunc_intint_impl_IsRow_f1_lok2 F) (slices_IndexFunc_intint_impl_IsRow_f1_lsok0 F)
theorem slices_IndexFunc_intint_impl_IsRow_f1_run (F : Nat) (s0 : List Int) : runS tt (slices_IndexFunc_intint_impl_IsRow_f1_tab F) (slices_IndexFunc_intint_impl_IsRow_f1_LS1 F) [] [] Try.f68 (bodyOf Try.f68) 70 [(.ri .i64 s0), (.fn 55 [] [])] [] = slices_IndexFunc_intint_impl_IsRow_f1_c _ F s0 (fun r => some ⟨(.int .i64 r), [], []⟩) := by kernel_rfl
def slices_IndexFunc_intint_impl_IsRow_f1_ent (F : Nat) : Ent := ⟨[], .quiet, fun args mem => match args, mem with
  | [(.ri .i64 s0), (.fn 55 [] [])], [] => some ((slices_IndexFunc_intint_impl_IsRow_f1_p F s0).isSome, ⟨(.int .i64 ((slices_IndexFunc_intint_impl_IsRow_f1_p F s0).getD default)), [], []⟩)
  | _, _ => none⟩
theorem slices_IndexFunc_intint_impl_IsRow_f1_fok : FunOK Try.prog 68 := funOK Try.func68 (by kernel_rfl) rfl
theorem slices_IndexFunc_intint_impl_IsRow_f1_meets (F : Nat) : Meets Try.prog 68 (slices_IndexFunc_intint_impl_IsRow_f1_ent F) := by
  refine meets_of_runS mixed ttok deep (slices_IndexFunc_intint_impl_IsRow_f1_tabok F) Try.func68 (body_some rfl) (slices_IndexFunc_intint_impl_IsRow_f1_lsok1 F) fun args mem hfit ret h => ?_
  clear hfit
  simp only [slices_IndexFunc_intint_impl_IsRow_f1_ent] at h
  split at h
  · rename_i s0
    simp only [Option.some.injEq, Prod.mk.injEq] at h
    obtain ⟨hc, rfl⟩ := h
    exact ⟨[], [], 70, _, (slices_IndexFunc_intint_impl_IsRow_f1_run F s0).trans ((slices_IndexFunc_intint_impl_IsRow_f1_cp _ F s0 _).trans (bind_use hc _)), rfl, rfl, rfl⟩
  · cases h

/-! slices.ContainsFunc[[]int,int] -/
noncomputable def slices_ContainsFunc_intint_impl_IsRow_f1_tab (F : Nat) : Tab := [(68, (slices_IndexFunc_intint_impl_IsRow_f1_ent F))]
theorem slices_ContainsFunc_intint_impl_IsRow_f1_tabok (F : Nat) : TabOK Try.prog (slices_ContainsFunc_intint_impl_IsRow_f1_tab F) := (tab_cons (slices_IndexFunc_intint_impl_IsRow_f1_meets F) slices_IndexFunc_intint_impl_IsRow_f1_fok tab_nil)
noncomputable def slices_ContainsFunc_intint_impl_IsRow_f1_LS0 (F : Nat) : LT := []
theorem slices_ContainsFunc_intint_impl_IsRow_f1_lsok0 (F : Nat) : LoopsOK Try.prog (slices_ContainsFunc_intint_impl_IsRow_f1_LS0 F) (bodyOf Try.f54) := loopsOK_nil
theorem slices_ContainsFunc_intint_impl_IsRow_f1_run (F : Nat) (s0 : List Int) : runS tt (slices_ContainsFunc_intint_impl_IsRow_f1_tab F) (slices_ContainsFunc_intint_impl_IsRow_f1_LS0 F) [] [] Try.f54 (bodyOf Try.f54) 70 [(.ri .i64 s0), (.fn 55 [] [])] [] = slices_ContainsFunc_intint_impl_IsRow_f1_c _ F s0 (fun r => some ⟨(.bool r), [], []⟩) := by kernel_rfl
def slices_ContainsFunc_intint_impl_IsRow_f1_ent (F : Nat) : Ent := ⟨[], .quiet, fun args mem => match args, mem with
  | [(.ri .i64 s0), (.fn 55 [] [])], [] => some ((slices_ContainsFunc_intint_impl_IsRow_f1_p F s0).isSome, ⟨(.bool ((slices_ContainsFunc_intint_impl_IsRow_f1_p F s0).getD default)), [], []⟩)
  | _, _ => none⟩
theorem slices_ContainsFunc_intint_impl_IsRow_f1_fok : FunOK Try.prog 54 := funOK Try.func54 (by kernel_rfl) rfl
theorem slices_ContainsFunc_intint_impl_IsRow_f1_meets (F : Nat) : Meets Try.prog 54 (slices_ContainsFunc_intint_impl_IsRow_f1_ent F) := by
  refine meets_of_runS mixed ttok deep (slices_ContainsFunc_intint_impl_IsRow_f1_tabok F) Try.func54 (body_some rfl) (slices_ContainsFunc_intint_impl_IsRow_f1_lsok0 F) fun args mem hfit ret h => ?_
  clear hfit
  simp only [slices_ContainsFunc_intint_impl_IsRow_f1_ent] at h
  split at h
  · rename_i s0
    simp only [Option.some.injEq, Prod.mk.injEq] at h
    obtain ⟨hc, rfl⟩ := h
    exact ⟨[], [], 70, _, (slices_ContainsFunc_intint_impl_IsRow_f1_run F s0).trans ((slices_ContainsFunc_intint_impl_IsRow_f1_cp _ F s0 _).trans (bind_use hc _)), rfl, rfl, rfl⟩
  · cases h

/-! loop.example/g01194/impl.IsRow -/
noncomputable def impl_IsRow_tab (F : Nat) : Tab := [(54, (slices_ContainsFunc_intint_impl_IsRow_f1_ent F))]
theorem impl_IsRow_tabok (F : Nat) : TabOK Try.prog (impl_IsRow_tab F) := (tab_cons (slices_ContainsFunc_intint_impl_IsRow_f1_meets F) slices_ContainsFunc_intint_impl_IsRow_f1_fok tab_nil)
noncomputable def impl_IsRow_LS0 (F : Nat) : LT := []
theorem impl_IsRow_lsok0 (F : Nat) : LoopsOK Try.prog (impl_IsRow_LS0 F) (bodyOf Try.f45) := loopsOK_nil
theorem impl_IsRow_run (F : Nat) (row0 : List Int) : runS tt (impl_IsRow_tab F) (impl_IsRow_LS0 F) [] [] Try.f45 (bodyOf Try.f45) 70 [(.ints 4 row0)] [] = impl_IsRow_c _ F row0 (fun r => some ⟨(.bool r), [], []⟩) := by kernel_rfl
def impl_IsRow_ent (F : Nat) : Ent := ⟨[], .quiet, fun args mem => match args, mem with
  | [(.ints 4 row0)], [] => some ((impl_IsRow_p F row0).isSome, ⟨(.bool ((impl_IsRow_p F row0).getD default)), [], []⟩)
  | _, _ => none⟩
theorem impl_IsRow_fok : FunOK Try.prog 45 := funOK Try.func45 (by kernel_rfl) rfl
theorem impl_IsRow_meets (F : Nat) : Meets Try.prog 45 (impl_IsRow_ent F) := by
  refine meets_of_runS mixed ttok deep (impl_IsRow_tabok F) Try.func45 (body_some rfl) (impl_IsRow_lsok0 F) fun args mem hfit ret h => ?_
  clear hfit
  simp only [impl_IsRow_ent] at h
  split at h
  · rename_i row0
    simp only [Option.some.injEq, Prod.mk.injEq] at h
    obtain ⟨hc, rfl⟩ := h
    exact ⟨[], [], 70, _, (impl_IsRow_run F row0).trans ((impl_IsRow_cp _ F row0 _).trans (bind_use hc _)), rfl, rfl, rfl⟩
  · cases h
end Go.Proofs.Ytabfliifleonaai
