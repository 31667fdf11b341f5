/-
Pure functions and what the code of them does, by program; without conditions.
-/
import Derived.Test.YtabfliifleonaaiQiP3
import Derived.Test.YtabfliifleonaaiQiS2
namespace Go.Proofs.Ytabfliifleonaai
open Go Go.Lv Go.Lv.P Go.Proofs
set_option linter.unusedVariables false
set_option linter.unusedSimpArgs false
set_option maxRecDepth 100000
/-! loop.example/g01194/impl.CountTiles -/
noncomputable def impl_CountTiles_tab (F : Nat) : Tab := [(27, (impl_IsBoard_ent F)), (35, (impl_cells_ent F)), (28, (impl_Board_at_ent F))]
theorem impl_CountTiles_tabok (F : Nat) : TabOK Try.prog (impl_CountTiles_tab F) := (tab_cons (impl_IsBoard_meets F) impl_IsBoard_fok (tab_cons (impl_cells_meets F) impl_cells_fok (tab_cons (impl_Board_at_meets F) impl_Board_at_fok tab_nil)))
noncomputable def impl_CountTiles_LS0 (F : Nat) : LT := []
theorem impl_CountTiles_lsok0 (F : Nat) : LoopsOK Try.prog (impl_CountTiles_LS0 F) (bodyOf Try.f16) := loopsOK_nil
theorem impl_CountTiles_keys : keysOK (bodyOf Try.f16) = true := by kernel_rfl
def impl_CountTiles_st5 (b13 : List Int) (t1412 : Int) (out15 : List Int) : St := ⟨expand 28 0 [1, 2, 4, 12, 13, 14] [(.ptr 0 0 0 16), (.ptr 1 0 0 18), (.ptr 2 0 0 18), (.sl 3 0 16), (.int .i64 (16 : Int)), (.int .i64 t1412)], [(.var 16 (.ri .i64 b13)), (.var 18 (.ri .i64 [(0 : Int), (0 : Int), (0 : Int), (0 : Int), (0 : Int), (0 : Int), (0 : Int), (0 : Int), (0 : Int), (0 : Int), (0 : Int), (0 : Int), (0 : Int), (0 : Int), (0 : Int), (0 : Int), (0 : Int), (0 : Int)])), (.var 18 (.ri .i64 out15)), (.vec 25 (.rr 2 [[(0 : Int), (0 : Int)], [(0 : Int), (1 : Int)], [(0 : Int), (2 : Int)], [(0 : Int), (3 : Int)], [(1 : Int), (0 : Int)], [(1 : Int), (1 : Int)], [(1 : Int), (2 : Int)], [(1 : Int), (3 : Int)], [(2 : Int), (0 : Int)], [(2 : Int), (1 : Int)], [(2 : Int), (2 : Int)], [(2 : Int), (3 : Int)], [(3 : Int), (0 : Int)], [(3 : Int), (1 : Int)], [(3 : Int), (2 : Int)], [(3 : Int), (3 : Int)]]))], 0, []⟩
def impl_CountTiles_o5 (b13 : List Int) (x : List Int) : GT := (.out (.exit 0 ⟨expand 28 0 [2, 4] [(.ptr 0 0 0 18), (.ptr 1 0 0 18)], [(.var 18 (.ri .i64 [(0 : Int), (0 : Int), (0 : Int), (0 : Int), (0 : Int), (0 : Int), (0 : Int), (0 : Int), (0 : Int), (0 : Int), (0 : Int), (0 : Int), (0 : Int), (0 : Int), (0 : Int), (0 : Int), (0 : Int), (0 : Int)])), (.var 18 (.ri .i64 x))], 0, []⟩))
def impl_CountTiles_ls5 (F : Nat) : LoopS := ⟨28, [1, 2, 4, 12, 13, 14], [], [2, 4], [], [2, 3], [], [], fun vals mem np killed => match vals, mem, np, killed with
  | [(.ptr 0 0 0 16), (.ptr 1 0 0 18), (.ptr 2 0 0 18), (.sl 3 0 q_t1210), (.int .i64 q_t1311), (.int .i64 t1412)], [(.var 16 (.ri .i64 b13)), (.var 18 (.ri .i64 q_t214)), (.var 18 (.ri .i64 out15)), (.vec 25 (.rr 2 q_t1216))], 0, [] => .br ((q_t1311 == (16 : Int)) && ((q_t214 == ([(0 : Int), (0 : Int), (0 : Int), (0 : Int), (0 : Int), (0 : Int), (0 : Int), (0 : Int), (0 : Int), (0 : Int), (0 : Int), (0 : Int), (0 : Int), (0 : Int), (0 : Int), (0 : Int), (0 : Int), (0 : Int)] : List Int)) && ((q_t1216 == ([[(0 : Int), (0 : Int)], [(0 : Int), (1 : Int)], [(0 : Int), (2 : Int)], [(0 : Int), (3 : Int)], [(1 : Int), (0 : Int)], [(1 : Int), (1 : Int)], [(1 : Int), (2 : Int)], [(1 : Int), (3 : Int)], [(2 : Int), (0 : Int)], [(2 : Int), (1 : Int)], [(2 : Int), (2 : Int)], [(2 : Int), (3 : Int)], [(3 : Int), (0 : Int)], [(3 : Int), (1 : Int)], [(3 : Int), (2 : Int)], [(3 : Int), (3 : Int)]] : List (List Int))) && ((Nat.beq q_t1210 16) && (impl_CountTiles_l5 F b13 t1412 out15).isSome)))) (impl_CountTiles_o5 b13 ((impl_CountTiles_l5 F b13 t1412 out15).getD default)) .fail
  | _, _, _, _ => .fail⟩
theorem impl_CountTiles_step5 (F : Nat) (b13 : List Int) (t1412 : Int) (out15 : List Int) {R : Type} (k : Out → Option R) : stepS tt (impl_CountTiles_tab F) (impl_CountTiles_LS0 F) 70 (impl_CountTiles_ls5 F) (loopAt 5 (bodyOf Try.f16)) (impl_CountTiles_st5 b13 t1412 out15) k = impl_CountTiles_s5 F b13 R (t1412, out15) (fun s => k (.norm (impl_CountTiles_st5 b13 s.1 s.2))) (fun x => (impl_CountTiles_o5 b13 x).run k) := by kernel_rfl
theorem impl_CountTiles_iter5 (F : Nat) (b13 : List Int) {R : Type} (k : Out → Option R) : ∀ (n : Nat) (t1412 : Int) (out15 : List Int), iterS tt (impl_CountTiles_tab F) (impl_CountTiles_LS0 F) 70 (impl_CountTiles_ls5 F) (loopAt 5 (bodyOf Try.f16)) n (impl_CountTiles_st5 b13 t1412 out15) k = loopC (impl_CountTiles_s5 F b13) n (t1412, out15) (fun x => (impl_CountTiles_o5 b13 x).run k)
  | 0, t1412, out15 => rfl
  | n + 1, t1412, out15 => (iterS_succ tt (impl_CountTiles_tab F) (impl_CountTiles_LS0 F) 70 (impl_CountTiles_ls5 F) (loopAt 5 (bodyOf Try.f16)) n (impl_CountTiles_st5 b13 t1412 out15) k).trans ((impl_CountTiles_step5 F b13 t1412 out15 (nextK (iterS tt (impl_CountTiles_tab F) (impl_CountTiles_LS0 F) 70 (impl_CountTiles_ls5 F) (loopAt 5 (bodyOf Try.f16)) n) k)).trans (congrArg (fun kn => impl_CountTiles_s5 F b13 R (t1412, out15) kn _) (funext (fun ⟨t1412, out15⟩ => impl_CountTiles_iter5 F b13 k n t1412 out15))))
theorem impl_CountTiles_lok5 (F : Nat) : LoopOK Try.prog (loopAt 5 (bodyOf Try.f16)) (impl_CountTiles_ls5 F) := by
  refine loopOK_of mixed ttok deep (impl_CountTiles_tabok F) (loopsOK_at (impl_CountTiles_lsok0 F) 5) (fuel := 70) fun R vals mem np killed k x h => ?_
  simp only [impl_CountTiles_ls5] at h
  split at h
  · rename_i q_t1210 q_t1311 t1412 b13 q_t214 out15 q_t1216
    simp only [GT.run] at h
    have hc := (cond_noneL h).1
    replace h := (cond_noneL h).2
    have hg := (and_split hc).1
    replace hc := (and_split hc).2
    obtain rfl := beq_int hg
    have hg := (and_split hc).1
    replace hc := (and_split hc).2
    obtain rfl := beq_li hg
    have hg := (and_split hc).1
    replace hc := (and_split hc).2
    obtain rfl := beq_lli hg
    have hg := (and_split hc).1
    replace hc := (and_split hc).2
    obtain rfl := nbeq_nat hg
    refine ⟨F, (impl_CountTiles_iter5 F b13 k F t1412 out15).trans ((loopC_use (impl_CountTiles_s5_nat F b13) hc _).trans h)⟩
  · simp only [GT.run] at h
    cases h
noncomputable def impl_CountTiles_LS1 (F : Nat) : LT := (5, impl_CountTiles_ls5 F) :: impl_CountTiles_LS0 F
theorem impl_CountTiles_lsok1 (F : Nat) : LoopsOK Try.prog (impl_CountTiles_LS1 F) (bodyOf Try.f16) := loopsOK_cons impl_CountTiles_keys (impl_CountTiles_lok5 F) (impl_CountTiles_lsok0 F)
theorem impl_CountTiles_run (F : Nat) (b0 : List Int) : runS tt (impl_CountTiles_tab F) (impl_CountTiles_LS1 F) [] [] Try.f16 (bodyOf Try.f16) 70 [(.ints 16 b0)] [] = impl_CountTiles_c _ F b0 (fun r => some ⟨(.tup [(.ints 18 r.1), (.bool r.2)]), [], []⟩) := by kernel_rfl
def impl_CountTiles_ent (F : Nat) : Ent := ⟨[], .quiet, fun args mem => match args, mem with
  | [(.ints 16 b0)], [] => some ((impl_CountTiles_p F b0).isSome, ⟨(.tup [(.ints 18 ((impl_CountTiles_p F b0).getD default).1), (.bool ((impl_CountTiles_p F b0).getD default).2)]), [], []⟩)
  | _, _ => none⟩
theorem impl_CountTiles_fok : FunOK Try.prog 16 := funOK Try.func16 (by kernel_rfl) rfl
theorem impl_CountTiles_meets (F : Nat) : Meets Try.prog 16 (impl_CountTiles_ent F) := by
  refine meets_of_runS mixed ttok deep (impl_CountTiles_tabok F) Try.func16 (body_some rfl) (impl_CountTiles_lsok1 F) fun args mem hfit ret h => ?_
  clear hfit
  simp only [impl_CountTiles_ent] at h
  split at h
  · rename_i b0
    simp only [Option.some.injEq, Prod.mk.injEq] at h
    obtain ⟨hc, rfl⟩ := h
    exact ⟨[], [], 70, _, (impl_CountTiles_run F b0).trans ((impl_CountTiles_cp _ F b0 _).trans (bind_use hc _)), rfl, rfl, rfl⟩
  · cases h

/-! loop.example/g01194/laws.vHas -/
noncomputable def laws_vHas_tab (F : Nat) : Tab := []
theorem laws_vHas_tabok (F : Nat) : TabOK Try.prog (laws_vHas_tab F) := tab_nil
noncomputable def laws_vHas_LS0 (F : Nat) : LT := []
theorem laws_vHas_lsok0 (F : Nat) : LoopsOK Try.prog (laws_vHas_LS0 F) (bodyOf Try.f17) := loopsOK_nil
theorem laws_vHas_keys : keysOK (bodyOf Try.f17) = true := by kernel_rfl
def laws_vHas_st2 (l0 : List Int) (x1 : Int) (i2 : Int) : St := ⟨expand 18 0 [0, 1, 5] [(.ri .i64 l0), (.int .i64 x1), (.int .i64 i2)], [], 0, []⟩
def laws_vHas_o2 (l0 : List Int) (x1 : Int) (x : Bool) : GT := (.br x (.out (.ret ⟨expand 18 0 [4] [(.bool true)], [], 0, []⟩)) (.out (.exit 0 ⟨expand 18 0 [] [], [], 0, []⟩)))
def laws_vHas_ls2 (F : Nat) : LoopS := ⟨18, [0, 1, 5], [], [], [], [4], [], [], fun vals mem np killed => match vals, mem, np, killed with
  | [(.ri .i64 l0), (.int .i64 x1), (.int .i64 i2)], [], 0, [] => .br (laws_vHas_l2 F l0 x1 i2).isSome (laws_vHas_o2 l0 x1 ((laws_vHas_l2 F l0 x1 i2).getD default)) .fail
  | _, _, _, _ => .fail⟩
theorem laws_vHas_step2 (F : Nat) (l0 : List Int) (x1 : Int) (i2 : Int) {R : Type} (k : Out → Option R) : stepS tt (laws_vHas_tab F) (laws_vHas_LS0 F) 70 (laws_vHas_ls2 F) (loopAt 2 (bodyOf Try.f17)) (laws_vHas_st2 l0 x1 i2) k = laws_vHas_s2 F l0 x1 R i2 (fun s => k (.norm (laws_vHas_st2 l0 x1 s))) (fun x => (laws_vHas_o2 l0 x1 x).run k) := by kernel_rfl
theorem laws_vHas_iter2 (F : Nat) (l0 : List Int) (x1 : Int) {R : Type} (k : Out → Option R) : ∀ (n : Nat) (i2 : Int), iterS tt (laws_vHas_tab F) (laws_vHas_LS0 F) 70 (laws_vHas_ls2 F) (loopAt 2 (bodyOf Try.f17)) n (laws_vHas_st2 l0 x1 i2) k = loopC (laws_vHas_s2 F l0 x1) n i2 (fun x => (laws_vHas_o2 l0 x1 x).run k)
  | 0, i2 => rfl
  | n + 1, i2 => (iterS_succ tt (laws_vHas_tab F) (laws_vHas_LS0 F) 70 (laws_vHas_ls2 F) (loopAt 2 (bodyOf Try.f17)) n (laws_vHas_st2 l0 x1 i2) k).trans ((laws_vHas_step2 F l0 x1 i2 (nextK (iterS tt (laws_vHas_tab F) (laws_vHas_LS0 F) 70 (laws_vHas_ls2 F) (loopAt 2 (bodyOf Try.f17)) n) k)).trans (congrArg (fun kn => laws_vHas_s2 F l0 x1 R i2 kn _) (funext (fun i2 => laws_vHas_iter2 F l0 x1 k n i2))))
theorem laws_vHas_lok2 (F : Nat) : LoopOK Try.prog (loopAt 2 (bodyOf Try.f17)) (laws_vHas_ls2 F) := by
  refine loopOK_of mixed ttok deep (laws_vHas_tabok F) (loopsOK_at (laws_vHas_lsok0 F) 2) (fuel := 70) fun R vals mem np killed k x h => ?_
  simp only [laws_vHas_ls2] at h
  split at h
  · rename_i l0 x1 i2
    simp only [GT.run] at h
    have hc := (cond_noneL h).1
    replace h := (cond_noneL h).2
    refine ⟨F, (laws_vHas_iter2 F l0 x1 k F i2).trans ((loopC_use (laws_vHas_s2_nat F l0 x1) hc _).trans h)⟩
  · simp only [GT.run] at h
    cases h
noncomputable def laws_vHas_LS1 (F : Nat) : LT := (2, laws_vHas_ls2 F) :: laws_vHas_LS0 F
theorem laws_vHas_lsok1 (F : Nat) : LoopsOK Try.prog (laws_vHas_LS1 F) (bodyOf Try.f17) := loopsOK_cons laws_vHas_keys (laws_vHas_lok2 F) (laws_vHas_lsok0 F)
theorem laws_vHas_run (F : Nat) (l0 : List Int) (x1 : Int) : runS tt (laws_vHas_tab F) (laws_vHas_LS1 F) [] [] Try.f17 (bodyOf Try.f17) 70 [(.ri .i64 l0), (.int .i64 x1)] [] = laws_vHas_c _ F l0 x1 (fun r => some ⟨(.bool r), [], []⟩) := by kernel_rfl
def laws_vHas_ent (F : Nat) : Ent := ⟨[], .quiet, fun args mem => match args, mem with
  | [(.ri .i64 l0), (.int .i64 x1)], [] => some ((laws_vHas_p F l0 x1).isSome, ⟨(.bool ((laws_vHas_p F l0 x1).getD default)), [], []⟩)
  | _, _ => none⟩
theorem laws_vHas_fok : FunOK Try.prog 17 := funOK Try.func17 (by kernel_rfl) rfl
theorem laws_vHas_meets (F : Nat) : Meets Try.prog 17 (laws_vHas_ent F) := by
  refine meets_of_runS mixed ttok deep (laws_vHas_tabok F) Try.func17 (body_some rfl) (laws_vHas_lsok1 F) fun args mem hfit ret h => ?_
  clear hfit
  simp only [laws_vHas_ent] at h
  split at h
  · rename_i l0 x1
    simp only [Option.some.injEq, Prod.mk.injEq] at h
    obtain ⟨hc, rfl⟩ := h
    exact ⟨[], [], 70, _, (laws_vHas_run F l0 x1).trans ((laws_vHas_cp _ F l0 x1 _).trans (bind_use hc _)), rfl, rfl, rfl⟩
  · cases h

/-! loop.example/g01194/laws.FnSnakes -/
noncomputable def laws_FnSnakes_tab (F : Nat) : Tab := [(4, (laws_vBig_ent F)), (5, (spec_DrawSnakePath_ent F)), (6, (impl_SnakePath_ent F)), (7, (spec_SnakePath_ent F)), (9, (laws_vCut_ent F)), (8, (spec_DrawSnakesOf_ent F)), (10, (impl_SnakesOf_ent F)), (11, (spec_SnakesOf_ent F)), (12, (spec_DrawSnakeBoard_ent F)), (13, (impl_SnakeBoard_ent F)), (14, (spec_SnakeBoard_ent F)), (15, (laws_vInts_ent F)), (16, (impl_CountTiles_ent F)), (17, (laws_vHas_ent F))]
theorem laws_FnSnakes_tabok (F : Nat) : TabOK Try.prog (laws_FnSnakes_tab F) := (tab_cons (laws_vBig_meets F) laws_vBig_fok (tab_cons (spec_DrawSnakePath_meets F) spec_DrawSnakePath_fok (tab_cons (impl_SnakePath_meets F) impl_SnakePath_fok (tab_cons (spec_SnakePath_meets F) spec_SnakePath_fok (tab_cons (laws_vCut_meets F) laws_vCut_fok (tab_cons (spec_DrawSnakesOf_meets F) spec_DrawSnakesOf_fok (tab_cons (impl_SnakesOf_meets F) impl_SnakesOf_fok (tab_cons (spec_SnakesOf_meets F) spec_SnakesOf_fok (tab_cons (spec_DrawSnakeBoard_meets F) spec_DrawSnakeBoard_fok (tab_cons (impl_SnakeBoard_meets F) impl_SnakeBoard_fok (tab_cons (spec_SnakeBoard_meets F) spec_SnakeBoard_fok (tab_cons (laws_vInts_meets F) laws_vInts_fok (tab_cons (impl_CountTiles_meets F) impl_CountTiles_fok (tab_cons (laws_vHas_meets F) laws_vHas_fok tab_nil))))))))))))))
noncomputable def laws_FnSnakes_LS0 (F : Nat) : LT := []
theorem laws_FnSnakes_lsok0 (F : Nat) : LoopsOK Try.prog (laws_FnSnakes_LS0 F) (bodyOf Try.f3) := loopsOK_nil
theorem laws_FnSnakes_keys : keysOK (bodyOf Try.f3) = true := by kernel_rfl
def laws_FnSnakes_st22 (ok3 : Bool) (list8 : Nat) (fine9 : Bool) (path11 : List Int) (b12 : List Int) (list13 : List Int) (i10 : Int) : St := ⟨expand 251 0 [4, 5, 8, 9, 10, 27] [(.ptr 0 0 0 32), (.bool ok3), (.ptr 1 0 0 16), (.sl 2 0 list8), (.bool fine9), (.int .i64 i10)], [(.var 32 (.ri .i64 path11)), (.var 16 (.ri .i64 b12)), (.vec 3 (.ri .i64 list13))], 0, []⟩
def laws_FnSnakes_o22 (ok3 : Bool) (list8 : Nat) (fine9 : Bool) (path11 : List Int) (b12 : List Int) (list13 : List Int) (x : Bool) : GT := (.br x (.out (.ret ⟨expand 251 0 [2] [(.bool false)], [], 0, []⟩)) (.out (.exit 0 ⟨expand 251 0 [4, 5] [(.ptr 0 0 0 32), (.bool ok3)], [(.var 32 (.ri .i64 path11))], 0, []⟩)))
def laws_FnSnakes_ls22 (F : Nat) : LoopS := ⟨251, [4, 5, 8, 9, 10, 27], [], [4, 5], [], [2], [], [], fun vals mem np killed => match vals, mem, np, killed with
  | [(.ptr 0 0 0 32), (.bool ok3), (.ptr 1 0 0 16), (.sl 2 0 list8), (.bool fine9), (.int .i64 i10)], [(.var 32 (.ri .i64 path11)), (.var 16 (.ri .i64 b12)), (.vec 3 (.ri .i64 list13))], 0, [] => .br (laws_FnSnakes_l22 F ok3 list8 fine9 path11 b12 list13 i10).isSome (laws_FnSnakes_o22 ok3 list8 fine9 path11 b12 list13 ((laws_FnSnakes_l22 F ok3 list8 fine9 path11 b12 list13 i10).getD default)) .fail
  | _, _, _, _ => .fail⟩
theorem laws_FnSnakes_step22 (F : Nat) (ok3 : Bool) (list8 : Nat) (fine9 : Bool) (path11 : List Int) (b12 : List Int) (list13 : List Int) (i10 : Int) {R : Type} (k : Out → Option R) : stepS tt (laws_FnSnakes_tab F) (laws_FnSnakes_LS0 F) 70 (laws_FnSnakes_ls22 F) (loopAt 22 (bodyOf Try.f3)) (laws_FnSnakes_st22 ok3 list8 fine9 path11 b12 list13 i10) k = laws_FnSnakes_s22 F ok3 list8 fine9 path11 b12 list13 R i10 (fun s => k (.norm (laws_FnSnakes_st22 ok3 list8 fine9 path11 b12 list13 s))) (fun x => (laws_FnSnakes_o22 ok3 list8 fine9 path11 b12 list13 x).run k) := by kernel_rfl
theorem laws_FnSnakes_iter22 (F : Nat) (ok3 : Bool) (list8 : Nat) (fine9 : Bool) (path11 : List Int) (b12 : List Int) (list13 : List Int) {R : Type} (k : Out → Option R) : ∀ (n : Nat) (i10 : Int), iterS tt (laws_FnSnakes_tab F) (laws_FnSnakes_LS0 F) 70 (laws_FnSnakes_ls22 F) (loopAt 22 (bodyOf Try.f3)) n (laws_FnSnakes_st22 ok3 list8 fine9 path11 b12 list13 i10) k = loopC (laws_FnSnakes_s22 F ok3 list8 fine9 path11 b12 list13) n i10 (fun x => (laws_FnSnakes_o22 ok3 list8 fine9 path11 b12 list13 x).run k)
  | 0, i10 => rfl
  | n + 1, i10 => (iterS_succ tt (laws_FnSnakes_tab F) (laws_FnSnakes_LS0 F) 70 (laws_FnSnakes_ls22 F) (loopAt 22 (bodyOf Try.f3)) n (laws_FnSnakes_st22 ok3 list8 fine9 path11 b12 list13 i10) k).trans ((laws_FnSnakes_step22 F ok3 list8 fine9 path11 b12 list13 i10 (nextK (iterS tt (laws_FnSnakes_tab F) (laws_FnSnakes_LS0 F) 70 (laws_FnSnakes_ls22 F) (loopAt 22 (bodyOf Try.f3)) n) k)).trans (congrArg (fun kn => laws_FnSnakes_s22 F ok3 list8 fine9 path11 b12 list13 R i10 kn _) (funext (fun i10 => laws_FnSnakes_iter22 F ok3 list8 fine9 path11 b12 list13 k n i10))))
theorem laws_FnSnakes_lok22 (F : Nat) : LoopOK Try.prog (loopAt 22 (bodyOf Try.f3)) (laws_FnSnakes_ls22 F) := by
  refine loopOK_of mixed ttok deep (laws_FnSnakes_tabok F) (loopsOK_at (laws_FnSnakes_lsok0 F) 22) (fuel := 70) fun R vals mem np killed k x h => ?_
  simp only [laws_FnSnakes_ls22] at h
  split at h
  · rename_i ok3 list8 fine9 i10 path11 b12 list13
    simp only [GT.run] at h
    have hc := (cond_noneL h).1
    replace h := (cond_noneL h).2
    refine ⟨F, (laws_FnSnakes_iter22 F ok3 list8 fine9 path11 b12 list13 k F i10).trans ((loopC_use (laws_FnSnakes_s22_nat F ok3 list8 fine9 path11 b12 list13) hc _).trans h)⟩
  · simp only [GT.run] at h
    cases h
noncomputable def laws_FnSnakes_LS1 (F : Nat) : LT := (22, laws_FnSnakes_ls22 F) :: laws_FnSnakes_LS0 F
theorem laws_FnSnakes_lsok1 (F : Nat) : LoopsOK Try.prog (laws_FnSnakes_LS1 F) (bodyOf Try.f3) := loopsOK_cons laws_FnSnakes_keys (laws_FnSnakes_lok22 F) (laws_FnSnakes_lsok0 F)
def laws_FnSnakes_st31 (path7 : List Int) (i6 : Int) (seen8 : List Bool) : St := ⟨expand 251 0 [4, 30, 31] [(.ptr 0 0 0 32), (.ptr 1 0 0 16), (.int .i64 i6)], [(.var 32 (.ri .i64 path7)), (.var 16 (.rb seen8))], 0, []⟩
def laws_FnSnakes_o31 (path7 : List Int) (x : Bool) : GT := (.br x (.out (.ret ⟨expand 251 0 [2] [(.bool false)], [], 0, []⟩)) (.out (.exit 2 ⟨expand 251 0 [] [], [], 0, []⟩)))
def laws_FnSnakes_ls31 (F : Nat) : LoopS := ⟨251, [4, 30, 31], [], [], [], [2], [], [], fun vals mem np killed => match vals, mem, np, killed with
  | [(.ptr 0 0 0 32), (.ptr 1 0 0 16), (.int .i64 i6)], [(.var 32 (.ri .i64 path7)), (.var 16 (.rb seen8))], 0, [] => .br (laws_FnSnakes_l31 F path7 i6 seen8).isSome (laws_FnSnakes_o31 path7 ((laws_FnSnakes_l31 F path7 i6 seen8).getD default)) .fail
  | _, _, _, _ => .fail⟩
theorem laws_FnSnakes_step31 (F : Nat) (path7 : List Int) (i6 : Int) (seen8 : List Bool) {R : Type} (k : Out → Option R) : stepS tt (laws_FnSnakes_tab F) (laws_FnSnakes_LS1 F) 70 (laws_FnSnakes_ls31 F) (loopAt 31 (bodyOf Try.f3)) (laws_FnSnakes_st31 path7 i6 seen8) k = laws_FnSnakes_s31 F path7 R (i6, seen8) (fun s => k (.norm (laws_FnSnakes_st31 path7 s.1 s.2))) (fun x => (laws_FnSnakes_o31 path7 x).run k) := by kernel_rfl
theorem laws_FnSnakes_iter31 (F : Nat) (path7 : List Int) {R : Type} (k : Out → Option R) : ∀ (n : Nat) (i6 : Int) (seen8 : List Bool), iterS tt (laws_FnSnakes_tab F) (laws_FnSnakes_LS1 F) 70 (laws_FnSnakes_ls31 F) (loopAt 31 (bodyOf Try.f3)) n (laws_FnSnakes_st31 path7 i6 seen8) k = loopC (laws_FnSnakes_s31 F path7) n (i6, seen8) (fun x => (laws_FnSnakes_o31 path7 x).run k)
  | 0, i6, seen8 => rfl
  | n + 1, i6, seen8 => (iterS_succ tt (laws_FnSnakes_tab F) (laws_FnSnakes_LS1 F) 70 (laws_FnSnakes_ls31 F) (loopAt 31 (bodyOf Try.f3)) n (laws_FnSnakes_st31 path7 i6 seen8) k).trans ((laws_FnSnakes_step31 F path7 i6 seen8 (nextK (iterS tt (laws_FnSnakes_tab F) (laws_FnSnakes_LS1 F) 70 (laws_FnSnakes_ls31 F) (loopAt 31 (bodyOf Try.f3)) n) k)).trans (congrArg (fun kn => laws_FnSnakes_s31 F path7 R (i6, seen8) kn _) (funext (fun ⟨i6, seen8⟩ => laws_FnSnakes_iter31 F path7 k n i6 seen8))))
theorem laws_FnSnakes_lok31 (F : Nat) : LoopOK Try.prog (loopAt 31 (bodyOf Try.f3)) (laws_FnSnakes_ls31 F) := by
  refine loopOK_of mixed ttok deep (laws_FnSnakes_tabok F) (loopsOK_at (laws_FnSnakes_lsok1 F) 31) (fuel := 70) fun R vals mem np killed k x h => ?_
  simp only [laws_FnSnakes_ls31] at h
  split at h
  · rename_i i6 path7 seen8
    simp only [GT.run] at h
    have hc := (cond_noneL h).1
    replace h := (cond_noneL h).2
    refine ⟨F, (laws_FnSnakes_iter31 F path7 k F i6 seen8).trans ((loopC_use (laws_FnSnakes_s31_nat F path7) hc _).trans h)⟩
  · simp only [GT.run] at h
    cases h
noncomputable def laws_FnSnakes_LS2 (F : Nat) : LT := (31, laws_FnSnakes_ls31 F) :: laws_FnSnakes_LS1 F
theorem laws_FnSnakes_lsok2 (F : Nat) : LoopsOK Try.prog (laws_FnSnakes_LS2 F) (bodyOf Try.f3) := loopsOK_cons laws_FnSnakes_keys (laws_FnSnakes_lok31 F) (laws_FnSnakes_lsok1 F)
theorem laws_FnSnakes_run (F : Nat) (code0 : List Int) : runS tt (laws_FnSnakes_tab F) (laws_FnSnakes_LS2 F) [] [] Try.f3 (bodyOf Try.f3) 70 [(.ri .u8 code0)] [] = laws_FnSnakes_c _ F code0 (fun r => some ⟨(.bool r), [], []⟩) := by kernel_rfl
def laws_FnSnakes_ent (F : Nat) : Ent := ⟨[], .quiet, fun args mem => match args, mem with
  | [(.ri .u8 code0)], [] => some ((laws_FnSnakes_p F code0).isSome, ⟨(.bool ((laws_FnSnakes_p F code0).getD default)), [], []⟩)
  | _, _ => none⟩
theorem laws_FnSnakes_fok : FunOK Try.prog 3 := funOK Try.func3 (by kernel_rfl) rfl
theorem laws_FnSnakes_meets (F : Nat) : Meets Try.prog 3 (laws_FnSnakes_ent F) := by
  refine meets_of_runS mixed ttok deep (laws_FnSnakes_tabok F) Try.func3 (body_some rfl) (laws_FnSnakes_lsok2 F) fun args mem hfit ret h => ?_
  clear hfit
  simp only [laws_FnSnakes_ent] at h
  split at h
  · rename_i code0
    simp only [Option.some.injEq, Prod.mk.injEq] at h
    obtain ⟨hc, rfl⟩ := h
    exact ⟨[], [], 70, _, (laws_FnSnakes_run F code0).trans ((laws_FnSnakes_cp _ F code0 _).trans (bind_use hc _)), rfl, rfl, rfl⟩
  · cases h
end Go.Proofs.Ytabfliifleonaai
