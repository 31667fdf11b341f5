/-
Pure functions and what the code of them does, by program; without conditions.
-/
import Derived.Test.YtabfliifleonaajGreatQjP4
import Derived.Test.YtabfliifleonaajGreatQjS3
namespace Go.Proofs.YtabfliifleonaajGreat
open Go Go.Lv Go.Lv.P Go.Proofs
set_option linter.unusedVariables false
set_option linter.unusedSimpArgs false
set_option maxRecDepth 100000
/-! (loop.example/g01194/impl.Board).merged$1 -/
noncomputable def k29_tab (F : Nat) : Tab := []
theorem k29_tabok (F : Nat) : TabOK Tryz.prog (k29_tab F) := tab_nil
noncomputable def k29_LS0 (F : Nat) : LT := []
theorem k29_lsok0 (F : Nat) : LoopsOK Tryz.prog (k29_LS0 F) (bodyOf Tryz.f40) := loopsOK_nil
theorem k29_run (F : Nat) (g4 : List Int) (a14 : List Int) : runS tt (k29_tab F) (k29_LS0 F) [] [] Tryz.f40 (bodyOf Tryz.f40) 70 [(.ints 4 g4), (.ptr 0 0 0 4)] [(.var 4 (.ri .i64 a14))] = k29_c _ g4 a14 (fun r => some ⟨(.bool r), [(.var 4 (.ri .i64 a14))], []⟩) := by kernel_rfl
def k29_ent (F : Nat) : Ent := ⟨[], .quiet, fun args mem => match args, mem with
  | [(.ints 4 g4), (.ptr 0 0 0 4)], [(.var 4 (.ri .i64 a14))] => some (true, ⟨(.bool (k29_v g4 a14)), [], []⟩)
  | _, _ => none⟩
theorem k29_fok : FunOK Tryz.prog 40 := funOK Tryz.func40 (by kernel_rfl) rfl
theorem k29_meets (F : Nat) : Meets Tryz.prog 40 (k29_ent F) := by
  refine meets_of_runS mixed ttok deep (k29_tabok F) Tryz.func40 (body_some rfl) (k29_lsok0 F) fun args mem hfit ret h => ?_
  clear hfit
  simp only [k29_ent] at h
  split at h
  · rename_i g4 a14
    simp only [Option.some.injEq, Prod.mk.injEq] at h
    obtain ⟨hc, rfl⟩ := h
    exact ⟨[], [], 70, _, (k29_run F g4 a14).trans (k29_cv _ g4 a14 _), rfl, rfl, rfl⟩
  · cases h
/-! slices.IndexFunc[[][4]int,[4]int] -/
noncomputable def k16_tab (F : Nat) : Tab := [(40, (k29_ent F))]
theorem k16_tabok (F : Nat) : TabOK Tryz.prog (k16_tab F) := (tab_cons (k29_meets F) k29_fok tab_nil)
noncomputable def k16_LS0 (F : Nat) : LT := []
theorem k16_lsok0 (F : Nat) : LoopsOK Tryz.prog (k16_LS0 F) (bodyOf Tryz.f69) := loopsOK_nil
theorem k16_keys : keysOK (bodyOf Tryz.f69) = true := by kernel_rfl
def k16_st2 (s0 : List (List Int)) (t74 : Int) (f6 : List Int) (t85 : Int) : St := ⟨expand 19 0 [0, 1, 7, 8] [(.rr 4 s0), (.fn 40 [] [(.ptr 0 0 0 4)]), (.int .i64 t74), (.int .i64 t85)], [(.var 4 (.ri .i64 f6))], 1, []⟩
def k16_o2 (s0 : List (List Int)) (t74 : Int) (f6 : List Int) (x : Bool × Int) : GT := (.br x.1 (.out (.ret ⟨expand 19 0 [4] [(.int .i64 x.2)], [(.var 4 (.ri .i64 f6))], 1, []⟩)) (.out (.exit 0 ⟨expand 19 0 [] [], [(.var 4 (.ri .i64 f6))], 1, []⟩)))
def k16_ls2 (F : Nat) : LoopS := ⟨19, [0, 1, 7, 8], [], [], [], [4], [], [], fun vals mem np killed => match vals, mem, np, killed with
  | [(.rr 4 s0), (.fn 40 [] [(.ptr 0 0 0 4)]), (.int .i64 t74), (.int .i64 t85)], [(.var 4 (.ri .i64 f6))], 1, [] => .br (k16_l2 F s0 t74 f6 t85).isSome (k16_o2 s0 t74 f6 ((k16_l2 F s0 t74 f6 t85).getD default)) .fail
  | _, _, _, _ => .fail⟩
theorem k16_step2 (F : Nat) (s0 : List (List Int)) (t74 : Int) (f6 : List Int) (t85 : Int) {R : Type} (k : Out → Option R) : stepS tt (k16_tab F) (k16_LS0 F) 70 (k16_ls2 F) (loopAt 2 (bodyOf Tryz.f69)) (k16_st2 s0 t74 f6 t85) k = k16_s2 F s0 t74 f6 R t85 (fun s => k (.norm (k16_st2 s0 t74 f6 s))) (fun x => (k16_o2 s0 t74 f6 x).run k) := by kernel_rfl
theorem k16_iter2 (F : Nat) (s0 : List (List Int)) (t74 : Int) (f6 : List Int) {R : Type} (k : Out → Option R) : ∀ (n : Nat) (t85 : Int), iterS tt (k16_tab F) (k16_LS0 F) 70 (k16_ls2 F) (loopAt 2 (bodyOf Tryz.f69)) n (k16_st2 s0 t74 f6 t85) k = loopC (k16_s2 F s0 t74 f6) n t85 (fun x => (k16_o2 s0 t74 f6 x).run k)
  | 0, t85 => rfl
  | n + 1, t85 => (iterS_succ tt (k16_tab F) (k16_LS0 F) 70 (k16_ls2 F) (loopAt 2 (bodyOf Tryz.f69)) n (k16_st2 s0 t74 f6 t85) k).trans ((k16_step2 F s0 t74 f6 t85 (nextK (iterS tt (k16_tab F) (k16_LS0 F) 70 (k16_ls2 F) (loopAt 2 (bodyOf Tryz.f69)) n) k)).trans (congrArg (fun kn => k16_s2 F s0 t74 f6 R t85 kn _) (funext (fun t85 => k16_iter2 F s0 t74 f6 k n t85))))
theorem k16_lok2 (F : Nat) : LoopOK Tryz.prog (loopAt 2 (bodyOf Tryz.f69)) (k16_ls2 F) := by
  refine loopOK_of mixed ttok deep (k16_tabok F) (loopsOK_at (k16_lsok0 F) 2) (fuel := 70) fun R vals mem np killed k x h => ?_
  simp only [k16_ls2] at h
  split at h
  · rename_i s0 t74 t85 f6
    simp only [GT.run] at h
    have hc := (cond_noneL h).1
    replace h := (cond_noneL h).2
    refine ⟨F, (k16_iter2 F s0 t74 f6 k F t85).trans ((loopC_use (k16_s2_nat F s0 t74 f6) hc _).trans h)⟩
  · simp only [GT.run] at h
    cases h
noncomputable def k16_LS1 (F : Nat) : LT := (2, k16_ls2 F) :: k16_LS0 F
theorem k16_lsok1 (F : Nat) : LoopsOK Tryz.prog (k16_LS1 F) (bodyOf Tryz.f69) := loopsOK_cons k16_keys (k16_lok2 F) (k16_lsok0 F)
theorem k16_run (F : Nat) (s0 : List (List Int)) (f4 : List Int) : runS tt (k16_tab F) (k16_LS1 F) [] [] Tryz.f69 (bodyOf Tryz.f69) 70 [(.rr 4 s0), (.fn 40 [] [(.ptr 0 0 0 4)])] [(.var 4 (.ri .i64 f4))] = k16_c _ F s0 f4 (fun r => some ⟨(.int .i64 r), [(.var 4 (.ri .i64 f4))], []⟩) := by kernel_rfl
def k16_ent (F : Nat) : Ent := ⟨[], .quiet, fun args mem => match args, mem with
  | [(.rr 4 s0), (.fn 40 [] [(.ptr 0 0 0 4)])], [(.var 4 (.ri .i64 f4))] => some ((k16_p F s0 f4).isSome, ⟨(.int .i64 ((k16_p F s0 f4).getD default)), [], []⟩)
  | _, _ => none⟩
theorem k16_fok : FunOK Tryz.prog 69 := funOK Tryz.func69 (by kernel_rfl) rfl
theorem k16_meets (F : Nat) : Meets Tryz.prog 69 (k16_ent F) := by
  refine meets_of_runS mixed ttok deep (k16_tabok F) Tryz.func69 (body_some rfl) (k16_lsok1 F) fun args mem hfit ret h => ?_
  clear hfit
  simp only [k16_ent] at h
  split at h
  · rename_i s0 f4
    simp only [Option.some.injEq, Prod.mk.injEq] at h
    obtain ⟨hc, rfl⟩ := h
    exact ⟨[], [], 70, _, (k16_run F s0 f4).trans ((k16_cp _ F s0 f4 _).trans (bind_use hc _)), rfl, rfl, rfl⟩
  · cases h
/-! slices.DeleteFunc[[][4]int,[4]int] -/
noncomputable def k9_tab (F : Nat) : Tab := [(69, (k16_ent F)), (40, (k29_ent F))]
theorem k9_tabok (F : Nat) : TabOK Tryz.prog (k9_tab F) := (tab_cons (k16_meets F) k16_fok (tab_cons (k29_meets F) k29_fok tab_nil))
noncomputable def k9_LS0 (F : Nat) : LT := []
theorem k9_lsok0 (F : Nat) : LoopsOK Tryz.prog (k9_LS0 F) (bodyOf Tryz.f38) := loopsOK_nil
theorem k9_keys : keysOK (bodyOf Tryz.f38) = true := by kernel_rfl
def k9_st5 (s1 : Nat) (gd : List Int) (i5 : Int) (j6 : Int) (s7 : List (List Int)) : St := ⟨expand 42 0 [0, 1, 5, 6] [(.sl 0 0 s1), (.fn 40 [] [(.ptr 1 0 0 4)]), (.int .i64 i5), (.int .i64 j6)], [(.vec 24 (.rr 4 s7)), (.var 4 (.ri .i64 gd))], 2, []⟩
def k9_o5 (s1 : Nat) (gd : List Int) (x : Int × List (List Int)) : GT := (.out (.exit 0 ⟨expand 42 0 [0, 5] [(.sl 0 0 s1), (.int .i64 x.1)], [(.vec 24 (.rr 4 x.2)), (.var 4 (.ri .i64 gd))], 2, []⟩))
def k9_ls5 (F : Nat) : LoopS := ⟨42, [0, 1, 5, 6], [], [0, 5], [], [4], [], [], fun vals mem np killed => match vals, mem, np, killed with
  | [(.sl 0 0 s1), (.fn 40 [] [(.ptr 1 0 0 4)]), (.int .i64 i5), (.int .i64 j6)], [(.vec 24 (.rr 4 s7)), (.var 4 (.ri .i64 gd))], 2, [] => .br (k9_l5 F s1 gd i5 j6 s7).isSome (k9_o5 s1 gd ((k9_l5 F s1 gd i5 j6 s7).getD default)) .fail
  | _, _, _, _ => .fail⟩
theorem k9_step5 (F : Nat) (s1 : Nat) (gd : List Int) (i5 : Int) (j6 : Int) (s7 : List (List Int)) {R : Type} (k : Out → Option R) : stepS tt (k9_tab F) (k9_LS0 F) 70 (k9_ls5 F) (loopAt 5 (bodyOf Tryz.f38)) (k9_st5 s1 gd i5 j6 s7) k = k9_s5 F s1 gd R (i5, j6, s7) (fun s => k (.norm (k9_st5 s1 gd s.1 s.2.1 s.2.2))) (fun x => (k9_o5 s1 gd x).run k) := by kernel_rfl
theorem k9_iter5 (F : Nat) (s1 : Nat) (gd : List Int) {R : Type} (k : Out → Option R) : ∀ (n : Nat) (i5 : Int) (j6 : Int) (s7 : List (List Int)), iterS tt (k9_tab F) (k9_LS0 F) 70 (k9_ls5 F) (loopAt 5 (bodyOf Tryz.f38)) n (k9_st5 s1 gd i5 j6 s7) k = loopC (k9_s5 F s1 gd) n (i5, j6, s7) (fun x => (k9_o5 s1 gd x).run k)
  | 0, i5, j6, s7 => rfl
  | n + 1, i5, j6, s7 => (iterS_succ tt (k9_tab F) (k9_LS0 F) 70 (k9_ls5 F) (loopAt 5 (bodyOf Tryz.f38)) n (k9_st5 s1 gd i5 j6 s7) k).trans ((k9_step5 F s1 gd i5 j6 s7 (nextK (iterS tt (k9_tab F) (k9_LS0 F) 70 (k9_ls5 F) (loopAt 5 (bodyOf Tryz.f38)) n) k)).trans (congrArg (fun kn => k9_s5 F s1 gd R (i5, j6, s7) kn _) (funext (fun ⟨i5, j6, s7⟩ => k9_iter5 F s1 gd k n i5 j6 s7))))
theorem k9_lok5 (F : Nat) : LoopOK Tryz.prog (loopAt 5 (bodyOf Tryz.f38)) (k9_ls5 F) := by
  refine loopOK_of mixed ttok deep (k9_tabok F) (loopsOK_at (k9_lsok0 F) 5) (fuel := 70) fun R vals mem np killed k x h => ?_
  simp only [k9_ls5] at h
  split at h
  · rename_i s1 i5 j6 s7 gd
    simp only [GT.run] at h
    have hc := (cond_noneL h).1
    replace h := (cond_noneL h).2
    refine ⟨F, (k9_iter5 F s1 gd k F i5 j6 s7).trans ((loopC_use (k9_s5_nat F s1 gd) hc _).trans h)⟩
  · simp only [GT.run] at h
    cases h
noncomputable def k9_LS1 (F : Nat) : LT := (5, k9_ls5 F) :: k9_LS0 F
theorem k9_lsok1 (F : Nat) : LoopsOK Tryz.prog (k9_LS1 F) (bodyOf Tryz.f38) := loopsOK_cons k9_keys (k9_lok5 F) (k9_lsok0 F)
theorem k9_run (F : Nat) (s5 : List (List Int)) (vh : List Int) : runS tt (k9_tab F) (k9_LS1 F) [] [] Tryz.f38 (bodyOf Tryz.f38) 70 [(.sl 0 0 (List.length s5)), (.fn 40 [] [(.ptr 1 0 0 4)])] [(.vec 24 (.rr 4 s5)), (.var 4 (.ri .i64 vh))] = k9_c _ F s5 vh (fun r => some ⟨(.sl 0 0 r.1), [(.vec 24 (.rr 4 r.2)), (.var 4 (.ri .i64 vh))], []⟩) := by kernel_rfl
def k9_ent (F : Nat) : Ent := ⟨[true], .loud, fun args mem => match args, mem with
  | [(.sl 0 0 q_s1), (.fn 40 [] [(.ptr 1 0 0 4)])], [(.vec 24 (.rr 4 s5)), (.var 4 (.ri .i64 vh))] => some (((Nat.beq q_s1 (List.length s5)) && (k9_p F s5 vh).isSome), ⟨(.sl 0 0 ((k9_p F s5 vh).getD default).1), [(.vec 24 (.rr 4 ((k9_p F s5 vh).getD default).2)), (.var 4 (.ri .i64 vh))], []⟩)
  | _, _ => none⟩
theorem k9_fok : FunOK Tryz.prog 38 := funOK Tryz.func38 (by kernel_rfl) rfl
theorem k9_meets (F : Nat) : Meets Tryz.prog 38 (k9_ent F) := by
  refine meets_of_runS mixed ttok deep (k9_tabok F) Tryz.func38 (body_some rfl) (k9_lsok1 F) fun args mem hfit ret h => ?_
  clear hfit
  simp only [k9_ent] at h
  split at h
  · rename_i q_s1 s5 vh
    simp only [Option.some.injEq, Prod.mk.injEq] at h
    obtain ⟨hc, rfl⟩ := h
    have hg := (and_split hc).1
    replace hc := (and_split hc).2
    obtain rfl := nbeq_nat hg
    exact ⟨[], [], 70, _, (k9_run F s5 vh).trans ((k9_cp _ F s5 vh _).trans (bind_use hc _)), rfl, rfl, rfl⟩
  · cases h
/-! loop.example/g01194/impl.cells -/
noncomputable def k107_tab (F : Nat) : Tab := []
theorem k107_tabok (F : Nat) : TabOK Tryz.prog (k107_tab F) := tab_nil
noncomputable def k107_LS0 (F : Nat) : LT := []
theorem k107_lsok0 (F : Nat) : LoopsOK Tryz.prog (k107_LS0 F) (bodyOf Tryz.f44) := loopsOK_nil
theorem k107_run (F : Nat) : runS tt (k107_tab F) (k107_LS0 F) [] [] Tryz.f44 (bodyOf Tryz.f44) 70 [] [] = k107_c _ (fun r => some ⟨(.sl 0 0 16), [(.vec 39 (.rr 2 [[(0 : Int), (0 : Int)], [(0 : Int), (1 : Int)], [(0 : Int), (2 : Int)], [(0 : Int), (3 : Int)], [(1 : Int), (0 : Int)], [(1 : Int), (1 : Int)], [(1 : Int), (2 : Int)], [(1 : Int), (3 : Int)], [(2 : Int), (0 : Int)], [(2 : Int), (1 : Int)], [(2 : Int), (2 : Int)], [(2 : Int), (3 : Int)], [(3 : Int), (0 : Int)], [(3 : Int), (1 : Int)], [(3 : Int), (2 : Int)], [(3 : Int), (3 : Int)]]))], []⟩) := by kernel_rfl
def k107_ent (F : Nat) : Ent := ⟨[], .fresh, fun args mem => match args, mem with
  | [], [] => some (true, ⟨(.sl 0 0 16), [(.vec 39 (.rr 2 [[(0 : Int), (0 : Int)], [(0 : Int), (1 : Int)], [(0 : Int), (2 : Int)], [(0 : Int), (3 : Int)], [(1 : Int), (0 : Int)], [(1 : Int), (1 : Int)], [(1 : Int), (2 : Int)], [(1 : Int), (3 : Int)], [(2 : Int), (0 : Int)], [(2 : Int), (1 : Int)], [(2 : Int), (2 : Int)], [(2 : Int), (3 : Int)], [(3 : Int), (0 : Int)], [(3 : Int), (1 : Int)], [(3 : Int), (2 : Int)], [(3 : Int), (3 : Int)]]))], []⟩)
  | _, _ => none⟩
theorem k107_fok : FunOK Tryz.prog 44 := funOK Tryz.func44 (by kernel_rfl) rfl
theorem k107_meets (F : Nat) : Meets Tryz.prog 44 (k107_ent F) := by
  refine meets_of_runS mixed ttok deep (k107_tabok F) Tryz.func44 (body_some rfl) (k107_lsok0 F) fun args mem hfit ret h => ?_
  clear hfit
  simp only [k107_ent] at h
  split at h
  · simp only [Option.some.injEq, Prod.mk.injEq] at h
    obtain ⟨hc, rfl⟩ := h
    exact ⟨[], [], 70, _, (k107_run F).trans (k107_cv _ _), rfl, rfl, rfl⟩
  · cases h
/-! (loop.example/g01194/impl.Board).merged$2 -/
noncomputable def k30_tab (F : Nat) : Tab := []
theorem k30_tabok (F : Nat) : TabOK Tryz.prog (k30_tab F) := tab_nil
noncomputable def k30_LS0 (F : Nat) : LT := []
theorem k30_lsok0 (F : Nat) : LoopsOK Tryz.prog (k30_LS0 F) (bodyOf Tryz.f45) := loopsOK_nil
theorem k30_run (F : Nat) (yl : List Int) (m14 : List (List Int × Bool)) : runS tt (k30_tab F) (k30_LS0 F) [] [] Tryz.f45 (bodyOf Tryz.f45) 70 [(.ints 2 yl), (.ptr 0 0 0 1)] [(.var 1 (.rv [(.map 1)])), (.map 2 (.fl m14))] = k30_c _ yl m14 (fun r => some ⟨(.bool r), [(.var 1 (.rv [(.map 1)])), (.map 2 (.fl m14))], []⟩) := by kernel_rfl
def k30_ent (F : Nat) : Ent := ⟨[], .quiet, fun args mem => match args, mem with
  | [(.ints 2 yl), (.ptr 0 0 0 1)], [(.var 1 (.rv [(.map 1)])), (.map 2 (.fl m14))] => some (true, ⟨(.bool (k30_v yl m14)), [], []⟩)
  | _, _ => none⟩
theorem k30_fok : FunOK Tryz.prog 45 := funOK Tryz.func45 (by kernel_rfl) rfl
theorem k30_meets (F : Nat) : Meets Tryz.prog 45 (k30_ent F) := by
  refine meets_of_runS mixed ttok deep (k30_tabok F) Tryz.func45 (body_some rfl) (k30_lsok0 F) fun args mem hfit ret h => ?_
  clear hfit
  simp only [k30_ent] at h
  split at h
  · rename_i yl m14
    simp only [Option.some.injEq, Prod.mk.injEq] at h
    obtain ⟨hc, rfl⟩ := h
    exact ⟨[], [], 70, _, (k30_run F yl m14).trans (k30_cv _ yl m14 _), rfl, rfl, rfl⟩
  · cases h
/-! slices.IndexFunc[[][2]int,[2]int] -/
noncomputable def k15_tab (F : Nat) : Tab := [(45, (k30_ent F))]
theorem k15_tabok (F : Nat) : TabOK Tryz.prog (k15_tab F) := (tab_cons (k30_meets F) k30_fok tab_nil)
noncomputable def k15_LS0 (F : Nat) : LT := []
theorem k15_lsok0 (F : Nat) : LoopsOK Tryz.prog (k15_LS0 F) (bodyOf Tryz.f71) := loopsOK_nil
theorem k15_keys : keysOK (bodyOf Tryz.f71) = true := by kernel_rfl
def k15_st2 (s0 : List (List Int)) (t74 : Int) (m16 : List (List Int × Bool)) (t85 : Int) : St := ⟨expand 19 0 [0, 1, 7, 8] [(.rr 2 s0), (.fn 45 [] [(.ptr 0 0 0 1)]), (.int .i64 t74), (.int .i64 t85)], [(.var 1 (.rv [(.map 1)])), (.map 2 (.fl m16))], 2, []⟩
def k15_o2 (s0 : List (List Int)) (t74 : Int) (m16 : List (List Int × Bool)) (x : Bool × Int) : GT := (.br x.1 (.out (.ret ⟨expand 19 0 [4] [(.int .i64 x.2)], [(.var 1 (.rv [(.map 1)])), (.map 2 (.fl m16))], 2, []⟩)) (.out (.exit 0 ⟨expand 19 0 [] [], [(.var 1 (.rv [(.map 1)])), (.map 2 (.fl m16))], 2, []⟩)))
def k15_ls2 (F : Nat) : LoopS := ⟨19, [0, 1, 7, 8], [], [], [], [4], [], [], fun vals mem np killed => match vals, mem, np, killed with
  | [(.rr 2 s0), (.fn 45 [] [(.ptr 0 0 0 1)]), (.int .i64 t74), (.int .i64 t85)], [(.var 1 (.rv [(.map 1)])), (.map 2 (.fl m16))], 2, [] => .br (k15_l2 F s0 t74 m16 t85).isSome (k15_o2 s0 t74 m16 ((k15_l2 F s0 t74 m16 t85).getD default)) .fail
  | _, _, _, _ => .fail⟩
theorem k15_step2 (F : Nat) (s0 : List (List Int)) (t74 : Int) (m16 : List (List Int × Bool)) (t85 : Int) {R : Type} (k : Out → Option R) : stepS tt (k15_tab F) (k15_LS0 F) 70 (k15_ls2 F) (loopAt 2 (bodyOf Tryz.f71)) (k15_st2 s0 t74 m16 t85) k = k15_s2 F s0 t74 m16 R t85 (fun s => k (.norm (k15_st2 s0 t74 m16 s))) (fun x => (k15_o2 s0 t74 m16 x).run k) := by kernel_rfl
theorem k15_iter2 (F : Nat) (s0 : List (List Int)) (t74 : Int) (m16 : List (List Int × Bool)) {R : Type} (k : Out → Option R) : ∀ (n : Nat) (t85 : Int), iterS tt (k15_tab F) (k15_LS0 F) 70 (k15_ls2 F) (loopAt 2 (bodyOf Tryz.f71)) n (k15_st2 s0 t74 m16 t85) k = loopC (k15_s2 F s0 t74 m16) n t85 (fun x => (k15_o2 s0 t74 m16 x).run k)
  | 0, t85 => rfl
  | n + 1, t85 => (iterS_succ tt (k15_tab F) (k15_LS0 F) 70 (k15_ls2 F) (loopAt 2 (bodyOf Tryz.f71)) n (k15_st2 s0 t74 m16 t85) k).trans ((k15_step2 F s0 t74 m16 t85 (nextK (iterS tt (k15_tab F) (k15_LS0 F) 70 (k15_ls2 F) (loopAt 2 (bodyOf Tryz.f71)) n) k)).trans (congrArg (fun kn => k15_s2 F s0 t74 m16 R t85 kn _) (funext (fun t85 => k15_iter2 F s0 t74 m16 k n t85))))
theorem k15_lok2 (F : Nat) : LoopOK Tryz.prog (loopAt 2 (bodyOf Tryz.f71)) (k15_ls2 F) := by
  refine loopOK_of mixed ttok deep (k15_tabok F) (loopsOK_at (k15_lsok0 F) 2) (fuel := 70) fun R vals mem np killed k x h => ?_
  simp only [k15_ls2] at h
  split at h
  · rename_i s0 t74 t85 m16
    simp only [GT.run] at h
    have hc := (cond_noneL h).1
    replace h := (cond_noneL h).2
    refine ⟨F, (k15_iter2 F s0 t74 m16 k F t85).trans ((loopC_use (k15_s2_nat F s0 t74 m16) hc _).trans h)⟩
  · simp only [GT.run] at h
    cases h
noncomputable def k15_LS1 (F : Nat) : LT := (2, k15_ls2 F) :: k15_LS0 F
theorem k15_lsok1 (F : Nat) : LoopsOK Tryz.prog (k15_LS1 F) (bodyOf Tryz.f71) := loopsOK_cons k15_keys (k15_lok2 F) (k15_lsok0 F)
theorem k15_run (F : Nat) (s0 : List (List Int)) (m14 : List (List Int × Bool)) : runS tt (k15_tab F) (k15_LS1 F) [] [] Tryz.f71 (bodyOf Tryz.f71) 70 [(.rr 2 s0), (.fn 45 [] [(.ptr 0 0 0 1)])] [(.var 1 (.rv [(.map 1)])), (.map 2 (.fl m14))] = k15_c _ F s0 m14 (fun r => some ⟨(.int .i64 r), [(.var 1 (.rv [(.map 1)])), (.map 2 (.fl m14))], []⟩) := by kernel_rfl
def k15_ent (F : Nat) : Ent := ⟨[], .quiet, fun args mem => match args, mem with
  | [(.rr 2 s0), (.fn 45 [] [(.ptr 0 0 0 1)])], [(.var 1 (.rv [(.map 1)])), (.map 2 (.fl m14))] => some ((k15_p F s0 m14).isSome, ⟨(.int .i64 ((k15_p F s0 m14).getD default)), [], []⟩)
  | _, _ => none⟩
theorem k15_fok : FunOK Tryz.prog 71 := funOK Tryz.func71 (by kernel_rfl) rfl
theorem k15_meets (F : Nat) : Meets Tryz.prog 71 (k15_ent F) := by
  refine meets_of_runS mixed ttok deep (k15_tabok F) Tryz.func71 (body_some rfl) (k15_lsok1 F) fun args mem hfit ret h => ?_
  clear hfit
  simp only [k15_ent] at h
  split at h
  · rename_i s0 m14
    simp only [Option.some.injEq, Prod.mk.injEq] at h
    obtain ⟨hc, rfl⟩ := h
    exact ⟨[], [], 70, _, (k15_run F s0 m14).trans ((k15_cp _ F s0 m14 _).trans (bind_use hc _)), rfl, rfl, rfl⟩
  · cases h
/-! slices.DeleteFunc[[][2]int,[2]int] -/
noncomputable def k5_tab (F : Nat) : Tab := [(71, (k15_ent F)), (45, (k30_ent F))]
theorem k5_tabok (F : Nat) : TabOK Tryz.prog (k5_tab F) := (tab_cons (k15_meets F) k15_fok (tab_cons (k30_meets F) k30_fok tab_nil))
noncomputable def k5_LS0 (F : Nat) : LT := []
theorem k5_lsok0 (F : Nat) : LoopsOK Tryz.prog (k5_LS0 F) (bodyOf Tryz.f43) := loopsOK_nil
theorem k5_keys : keysOK (bodyOf Tryz.f43) = true := by kernel_rfl
def k5_st5 (s1 : Nat) (m28 : List (List Int × Bool)) (i5 : Int) (j6 : Int) (s7 : List (List Int)) : St := ⟨expand 42 0 [0, 1, 5, 6] [(.sl 0 0 s1), (.fn 45 [] [(.ptr 1 0 0 1)]), (.int .i64 i5), (.int .i64 j6)], [(.vec 39 (.rr 2 s7)), (.var 1 (.rv [(.map 2)])), (.map 2 (.fl m28))], 3, []⟩
def k5_o5 (s1 : Nat) (m28 : List (List Int × Bool)) (x : Int × List (List Int)) : GT := (.out (.exit 0 ⟨expand 42 0 [0, 5] [(.sl 0 0 s1), (.int .i64 x.1)], [(.vec 39 (.rr 2 x.2)), (.var 1 (.rv [(.map 2)])), (.map 2 (.fl m28))], 3, []⟩))
def k5_ls5 (F : Nat) : LoopS := ⟨42, [0, 1, 5, 6], [], [0, 5], [], [4], [], [], fun vals mem np killed => match vals, mem, np, killed with
  | [(.sl 0 0 s1), (.fn 45 [] [(.ptr 1 0 0 1)]), (.int .i64 i5), (.int .i64 j6)], [(.vec 39 (.rr 2 s7)), (.var 1 (.rv [(.map 2)])), (.map 2 (.fl m28))], 3, [] => .br (k5_l5 F s1 m28 i5 j6 s7).isSome (k5_o5 s1 m28 ((k5_l5 F s1 m28 i5 j6 s7).getD default)) .fail
  | _, _, _, _ => .fail⟩
theorem k5_step5 (F : Nat) (s1 : Nat) (m28 : List (List Int × Bool)) (i5 : Int) (j6 : Int) (s7 : List (List Int)) {R : Type} (k : Out → Option R) : stepS tt (k5_tab F) (k5_LS0 F) 70 (k5_ls5 F) (loopAt 5 (bodyOf Tryz.f43)) (k5_st5 s1 m28 i5 j6 s7) k = k5_s5 F s1 m28 R (i5, j6, s7) (fun s => k (.norm (k5_st5 s1 m28 s.1 s.2.1 s.2.2))) (fun x => (k5_o5 s1 m28 x).run k) := by kernel_rfl
theorem k5_iter5 (F : Nat) (s1 : Nat) (m28 : List (List Int × Bool)) {R : Type} (k : Out → Option R) : ∀ (n : Nat) (i5 : Int) (j6 : Int) (s7 : List (List Int)), iterS tt (k5_tab F) (k5_LS0 F) 70 (k5_ls5 F) (loopAt 5 (bodyOf Tryz.f43)) n (k5_st5 s1 m28 i5 j6 s7) k = loopC (k5_s5 F s1 m28) n (i5, j6, s7) (fun x => (k5_o5 s1 m28 x).run k)
  | 0, i5, j6, s7 => rfl
  | n + 1, i5, j6, s7 => (iterS_succ tt (k5_tab F) (k5_LS0 F) 70 (k5_ls5 F) (loopAt 5 (bodyOf Tryz.f43)) n (k5_st5 s1 m28 i5 j6 s7) k).trans ((k5_step5 F s1 m28 i5 j6 s7 (nextK (iterS tt (k5_tab F) (k5_LS0 F) 70 (k5_ls5 F) (loopAt 5 (bodyOf Tryz.f43)) n) k)).trans (congrArg (fun kn => k5_s5 F s1 m28 R (i5, j6, s7) kn _) (funext (fun ⟨i5, j6, s7⟩ => k5_iter5 F s1 m28 k n i5 j6 s7))))
theorem k5_lok5 (F : Nat) : LoopOK Tryz.prog (loopAt 5 (bodyOf Tryz.f43)) (k5_ls5 F) := by
  refine loopOK_of mixed ttok deep (k5_tabok F) (loopsOK_at (k5_lsok0 F) 5) (fuel := 70) fun R vals mem np killed k x h => ?_
  simp only [k5_ls5] at h
  split at h
  · rename_i s1 i5 j6 s7 m28
    simp only [GT.run] at h
    have hc := (cond_noneL h).1
    replace h := (cond_noneL h).2
    refine ⟨F, (k5_iter5 F s1 m28 k F i5 j6 s7).trans ((loopC_use (k5_s5_nat F s1 m28) hc _).trans h)⟩
  · simp only [GT.run] at h
    cases h
noncomputable def k5_LS1 (F : Nat) : LT := (5, k5_ls5 F) :: k5_LS0 F
theorem k5_lsok1 (F : Nat) : LoopsOK Tryz.prog (k5_LS1 F) (bodyOf Tryz.f43) := loopsOK_cons k5_keys (k5_lok5 F) (k5_lsok0 F)
theorem k5_run (F : Nat) (s5 : List (List Int)) (m26 : List (List Int × Bool)) : runS tt (k5_tab F) (k5_LS1 F) [] [] Tryz.f43 (bodyOf Tryz.f43) 70 [(.sl 0 0 (List.length s5)), (.fn 45 [] [(.ptr 1 0 0 1)])] [(.vec 39 (.rr 2 s5)), (.var 1 (.rv [(.map 2)])), (.map 2 (.fl m26))] = k5_c _ F s5 m26 (fun r => some ⟨(.sl 0 0 r.1), [(.vec 39 (.rr 2 r.2)), (.var 1 (.rv [(.map 2)])), (.map 2 (.fl m26))], []⟩) := by kernel_rfl
def k5_ent (F : Nat) : Ent := ⟨[true], .loud, fun args mem => match args, mem with
  | [(.sl 0 0 q_s1), (.fn 45 [] [(.ptr 1 0 0 1)])], [(.vec 39 (.rr 2 s5)), (.var 1 (.rv [(.map 2)])), (.map 2 (.fl m26))] => some (((Nat.beq q_s1 (List.length s5)) && (k5_p F s5 m26).isSome), ⟨(.sl 0 0 ((k5_p F s5 m26).getD default).1), [(.vec 39 (.rr 2 ((k5_p F s5 m26).getD default).2)), (.var 1 (.rv [(.map 2)])), (.map 2 (.fl m26))], []⟩)
  | _, _ => none⟩
theorem k5_fok : FunOK Tryz.prog 43 := funOK Tryz.func43 (by kernel_rfl) rfl
theorem k5_meets (F : Nat) : Meets Tryz.prog 43 (k5_ent F) := by
  refine meets_of_runS mixed ttok deep (k5_tabok F) Tryz.func43 (body_some rfl) (k5_lsok1 F) fun args mem hfit ret h => ?_
  clear hfit
  simp only [k5_ent] at h
  split at h
  · rename_i q_s1 s5 m26
    simp only [Option.some.injEq, Prod.mk.injEq] at h
    obtain ⟨hc, rfl⟩ := h
    have hg := (and_split hc).1
    replace hc := (and_split hc).2
    obtain rfl := nbeq_nat hg
    exact ⟨[], [], 70, _, (k5_run F s5 m26).trans ((k5_cp _ F s5 m26 _).trans (bind_use hc _)), rfl, rfl, rfl⟩
  · cases h
end Go.Proofs.YtabfliifleonaajGreat
