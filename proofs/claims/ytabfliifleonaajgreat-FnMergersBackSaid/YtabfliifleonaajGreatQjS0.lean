/-
Pure functions and what the code of them does, by program; without conditions.
-/
import Derived.Test.YtabfliifleonaajGreatQjP0
import Derived.Test.YtabfliifleonaajGreatQjA
namespace Go.Proofs.YtabfliifleonaajGreat
open Go Go.Lv Go.Lv.P Go.Proofs
set_option linter.unusedVariables false
set_option linter.unusedSimpArgs false
set_option maxRecDepth 100000
/-! loop.example/g01194/laws.rBig -/
noncomputable def k114_tab (F : Nat) : Tab := []
theorem k114_tabok (F : Nat) : TabOK Tryz.prog (k114_tab F) := tab_nil
noncomputable def k114_LS0 (F : Nat) : LT := []
theorem k114_lsok0 (F : Nat) : LoopsOK Tryz.prog (k114_LS0 F) (bodyOf Tryz.f4) := loopsOK_nil
theorem k114_run (F : Nat) (j9 : List Int) : runS tt (k114_tab F) (k114_LS0 F) [] [] Tryz.f4 (bodyOf Tryz.f4) 70 [(.ri .u8 j9)] [] = k114_c _ j9 (fun r => some ⟨(.bool r), [], []⟩) := by kernel_rfl
def k114_ent (F : Nat) : Ent := ⟨[], .quiet, fun args mem => match args, mem with
  | [(.ri .u8 j9)], [] => some (true, ⟨(.bool (k114_v j9)), [], []⟩)
  | _, _ => none⟩
theorem k114_fok : FunOK Tryz.prog 4 := funOK Tryz.func4 (by kernel_rfl) rfl
theorem k114_meets (F : Nat) : Meets Tryz.prog 4 (k114_ent F) := by
  refine meets_of_runS mixed ttok deep (k114_tabok F) Tryz.func4 (body_some rfl) (k114_lsok0 F) fun args mem hfit ret h => ?_
  clear hfit
  simp only [k114_ent] at h
  split at h
  · rename_i j9
    simp only [Option.some.injEq, Prod.mk.injEq] at h
    obtain ⟨hc, rfl⟩ := h
    exact ⟨[], [], 70, _, (k114_run F j9).trans (k114_cv _ j9 _), rfl, rfl, rfl⟩
  · cases h
/-! (*loop.example/g01194/spec.l1Cur).next -/
noncomputable def k69_tab (F : Nat) : Tab := []
theorem k69_tabok (F : Nat) : TabOK Tryz.prog (k69_tab F) := tab_nil
noncomputable def k69_LS0 (F : Nat) : LT := []
theorem k69_lsok0 (F : Nat) : LoopsOK Tryz.prog (k69_LS0 F) (bodyOf Tryz.f86) := loopsOK_nil
theorem k69_run (F : Nat) (c3 : List Int) (c4 : Int) (c5 : Int) : runS tt (k69_tab F) (k69_LS0 F) [] [] Tryz.f86 (bodyOf Tryz.f86) 70 [(.ptr 0 0 0 3)] [(.var 3 (.rv [(.ri .u8 c3), (.int .i64 c4), (.int .u64 c5)]))] = k69_c _ c3 c4 c5 (fun r => some ⟨(.int .i64 r.1), [(.var 3 (.rv [(.ri .u8 c3), (.int .i64 r.2.1), (.int .u64 r.2.2)]))], []⟩) := by kernel_rfl
def k69_ent (F : Nat) : Ent := ⟨[], .loud, fun args mem => match args, mem with
  | [(.ptr 0 0 0 3)], [(.var 3 (.rv [(.ri .u8 c3), (.int .i64 c4), (.int .u64 c5)]))] => some ((k69_p c3 c4 c5).isSome, ⟨(.int .i64 ((k69_p c3 c4 c5).getD default).1), [(.var 3 (.rv [(.ri .u8 c3), (.int .i64 ((k69_p c3 c4 c5).getD default).2.1), (.int .u64 ((k69_p c3 c4 c5).getD default).2.2)]))], []⟩)
  | _, _ => none⟩
theorem k69_fok : FunOK Tryz.prog 86 := funOK Tryz.func86 (by kernel_rfl) rfl
theorem k69_meets (F : Nat) : Meets Tryz.prog 86 (k69_ent F) := by
  refine meets_of_runS mixed ttok deep (k69_tabok F) Tryz.func86 (body_some rfl) (k69_lsok0 F) fun args mem hfit ret h => ?_
  clear hfit
  simp only [k69_ent] at h
  split at h
  · rename_i c3 c4 c5
    simp only [Option.some.injEq, Prod.mk.injEq] at h
    obtain ⟨hc, rfl⟩ := h
    exact ⟨[], [], 70, _, (k69_run F c3 c4 c5).trans ((k69_cp _ c3 c4 c5 _).trans (bind_use hc _)), rfl, rfl, rfl⟩
  · cases h
/-! (*loop.example/g01194/spec.l1Cur).pick -/
noncomputable def k70_tab (F : Nat) : Tab := [(86, (k69_ent F))]
theorem k70_tabok (F : Nat) : TabOK Tryz.prog (k70_tab F) := (tab_cons (k69_meets F) k69_fok tab_nil)
noncomputable def k70_LS0 (F : Nat) : LT := []
theorem k70_lsok0 (F : Nat) : LoopsOK Tryz.prog (k70_LS0 F) (bodyOf Tryz.f62) := loopsOK_nil
theorem k70_run (F : Nat) (n3 : Int) (c4 : List Int) (c5 : Int) (c6 : Int) : runS tt (k70_tab F) (k70_LS0 F) [] [] Tryz.f62 (bodyOf Tryz.f62) 70 [(.ptr 0 0 0 3), (.int .i64 n3)] [(.var 3 (.rv [(.ri .u8 c4), (.int .i64 c5), (.int .u64 c6)]))] = k70_c _ n3 c4 c5 c6 (fun r => some ⟨(.int .i64 r.1), [(.var 3 (.rv [(.ri .u8 c4), (.int .i64 r.2.1), (.int .u64 r.2.2)]))], []⟩) := by kernel_rfl
def k70_ent (F : Nat) : Ent := ⟨[], .loud, fun args mem => match args, mem with
  | [(.ptr 0 0 0 3), (.int .i64 n3)], [(.var 3 (.rv [(.ri .u8 c4), (.int .i64 c5), (.int .u64 c6)]))] => some ((k70_p n3 c4 c5 c6).isSome, ⟨(.int .i64 ((k70_p n3 c4 c5 c6).getD default).1), [(.var 3 (.rv [(.ri .u8 c4), (.int .i64 ((k70_p n3 c4 c5 c6).getD default).2.1), (.int .u64 ((k70_p n3 c4 c5 c6).getD default).2.2)]))], []⟩)
  | _, _ => none⟩
theorem k70_fok : FunOK Tryz.prog 62 := funOK Tryz.func62 (by kernel_rfl) rfl
theorem k70_meets (F : Nat) : Meets Tryz.prog 62 (k70_ent F) := by
  refine meets_of_runS mixed ttok deep (k70_tabok F) Tryz.func62 (body_some rfl) (k70_lsok0 F) fun args mem hfit ret h => ?_
  clear hfit
  simp only [k70_ent] at h
  split at h
  · rename_i n3 c4 c5 c6
    simp only [Option.some.injEq, Prod.mk.injEq] at h
    obtain ⟨hc, rfl⟩ := h
    exact ⟨[], [], 70, _, (k70_run F n3 c4 c5 c6).trans ((k70_cp _ n3 c4 c5 c6 _).trans (bind_use hc _)), rfl, rfl, rfl⟩
  · cases h
/-! (*loop.example/g01194/spec.l1Cur).one -/
noncomputable def k75_tab (F : Nat) : Tab := [(62, (k70_ent F))]
theorem k75_tabok (F : Nat) : TabOK Tryz.prog (k75_tab F) := (tab_cons (k70_meets F) k70_fok tab_nil)
noncomputable def k75_LS0 (F : Nat) : LT := []
theorem k75_lsok0 (F : Nat) : LoopsOK Tryz.prog (k75_LS0 F) (bodyOf Tryz.f60) := loopsOK_nil
theorem k75_run (F : Nat) (n3 : Int) (c4 : List Int) (c5 : Int) (c6 : Int) : runS tt (k75_tab F) (k75_LS0 F) [] [] Tryz.f60 (bodyOf Tryz.f60) 70 [(.ptr 0 0 0 3), (.int .i64 n3)] [(.var 3 (.rv [(.ri .u8 c4), (.int .i64 c5), (.int .u64 c6)]))] = k75_c _ n3 c4 c5 c6 (fun r => some ⟨(.bool r.1), [(.var 3 (.rv [(.ri .u8 c4), (.int .i64 r.2.1), (.int .u64 r.2.2)]))], []⟩) := by kernel_rfl
def k75_ent (F : Nat) : Ent := ⟨[], .loud, fun args mem => match args, mem with
  | [(.ptr 0 0 0 3), (.int .i64 n3)], [(.var 3 (.rv [(.ri .u8 c4), (.int .i64 c5), (.int .u64 c6)]))] => some ((k75_p n3 c4 c5 c6).isSome, ⟨(.bool ((k75_p n3 c4 c5 c6).getD default).1), [(.var 3 (.rv [(.ri .u8 c4), (.int .i64 ((k75_p n3 c4 c5 c6).getD default).2.1), (.int .u64 ((k75_p n3 c4 c5 c6).getD default).2.2)]))], []⟩)
  | _, _ => none⟩
theorem k75_fok : FunOK Tryz.prog 60 := funOK Tryz.func60 (by kernel_rfl) rfl
theorem k75_meets (F : Nat) : Meets Tryz.prog 60 (k75_ent F) := by
  refine meets_of_runS mixed ttok deep (k75_tabok F) Tryz.func60 (body_some rfl) (k75_lsok0 F) fun args mem hfit ret h => ?_
  clear hfit
  simp only [k75_ent] at h
  split at h
  · rename_i n3 c4 c5 c6
    simp only [Option.some.injEq, Prod.mk.injEq] at h
    obtain ⟨hc, rfl⟩ := h
    exact ⟨[], [], 70, _, (k75_run F n3 c4 c5 c6).trans ((k75_cp _ n3 c4 c5 c6 _).trans (bind_use hc _)), rfl, rfl, rfl⟩
  · cases h
/-! (*loop.example/g01194/spec.l1Cur).among -/
noncomputable def k53_tab (F : Nat) : Tab := [(62, (k70_ent F))]
theorem k53_tabok (F : Nat) : TabOK Tryz.prog (k53_tab F) := (tab_cons (k70_meets F) k70_fok tab_nil)
noncomputable def k53_LS0 (F : Nat) : LT := []
theorem k53_lsok0 (F : Nat) : LoopsOK Tryz.prog (k53_LS0 F) (bodyOf Tryz.f63) := loopsOK_nil
theorem k53_run (F : Nat) (list3 : List Int) (c4 : List Int) (c5 : Int) (c6 : Int) : runS tt (k53_tab F) (k53_LS0 F) [] [] Tryz.f63 (bodyOf Tryz.f63) 70 [(.ptr 0 0 0 3), (.ri .i64 list3)] [(.var 3 (.rv [(.ri .u8 c4), (.int .i64 c5), (.int .u64 c6)]))] = k53_c _ list3 c4 c5 c6 (fun r => some ⟨(.int .i64 r.1), [(.var 3 (.rv [(.ri .u8 c4), (.int .i64 r.2.1), (.int .u64 r.2.2)]))], []⟩) := by kernel_rfl
def k53_ent (F : Nat) : Ent := ⟨[], .loud, fun args mem => match args, mem with
  | [(.ptr 0 0 0 3), (.ri .i64 list3)], [(.var 3 (.rv [(.ri .u8 c4), (.int .i64 c5), (.int .u64 c6)]))] => some ((k53_p list3 c4 c5 c6).isSome, ⟨(.int .i64 ((k53_p list3 c4 c5 c6).getD default).1), [(.var 3 (.rv [(.ri .u8 c4), (.int .i64 ((k53_p list3 c4 c5 c6).getD default).2.1), (.int .u64 ((k53_p list3 c4 c5 c6).getD default).2.2)]))], []⟩)
  | _, _ => none⟩
theorem k53_fok : FunOK Tryz.prog 63 := funOK Tryz.func63 (by kernel_rfl) rfl
theorem k53_meets (F : Nat) : Meets Tryz.prog 63 (k53_ent F) := by
  refine meets_of_runS mixed ttok deep (k53_tabok F) Tryz.func63 (body_some rfl) (k53_lsok0 F) fun args mem hfit ret h => ?_
  clear hfit
  simp only [k53_ent] at h
  split at h
  · rename_i list3 c4 c5 c6
    simp only [Option.some.injEq, Prod.mk.injEq] at h
    obtain ⟨hc, rfl⟩ := h
    exact ⟨[], [], 70, _, (k53_run F list3 c4 c5 c6).trans ((k53_cp _ list3 c4 c5 c6 _).trans (bind_use hc _)), rfl, rfl, rfl⟩
  · cases h
/-! (*loop.example/g01194/spec.l1Cur).tile -/
noncomputable def k72_tab (F : Nat) : Tab := [(63, (k53_ent F))]
theorem k72_tabok (F : Nat) : TabOK Tryz.prog (k72_tab F) := (tab_cons (k53_meets F) k53_fok tab_nil)
noncomputable def k72_LS0 (F : Nat) : LT := []
theorem k72_lsok0 (F : Nat) : LoopsOK Tryz.prog (k72_LS0 F) (bodyOf Tryz.f61) := loopsOK_nil
theorem k72_run (F : Nat) (c3 : List Int) (c4 : Int) (c5 : Int) : runS tt (k72_tab F) (k72_LS0 F) [] [] Tryz.f61 (bodyOf Tryz.f61) 70 [(.ptr 0 0 0 3)] [(.var 3 (.rv [(.ri .u8 c3), (.int .i64 c4), (.int .u64 c5)]))] = k72_c _ c3 c4 c5 (fun r => some ⟨(.int .i64 r.1), [(.var 3 (.rv [(.ri .u8 c3), (.int .i64 r.2.1), (.int .u64 r.2.2)]))], []⟩) := by kernel_rfl
def k72_ent (F : Nat) : Ent := ⟨[], .loud, fun args mem => match args, mem with
  | [(.ptr 0 0 0 3)], [(.var 3 (.rv [(.ri .u8 c3), (.int .i64 c4), (.int .u64 c5)]))] => some ((k72_p c3 c4 c5).isSome, ⟨(.int .i64 ((k72_p c3 c4 c5).getD default).1), [(.var 3 (.rv [(.ri .u8 c3), (.int .i64 ((k72_p c3 c4 c5).getD default).2.1), (.int .u64 ((k72_p c3 c4 c5).getD default).2.2)]))], []⟩)
  | _, _ => none⟩
theorem k72_fok : FunOK Tryz.prog 61 := funOK Tryz.func61 (by kernel_rfl) rfl
theorem k72_meets (F : Nat) : Meets Tryz.prog 61 (k72_ent F) := by
  refine meets_of_runS mixed ttok deep (k72_tabok F) Tryz.func61 (body_some rfl) (k72_lsok0 F) fun args mem hfit ret h => ?_
  clear hfit
  simp only [k72_ent] at h
  split at h
  · rename_i c3 c4 c5
    simp only [Option.some.injEq, Prod.mk.injEq] at h
    obtain ⟨hc, rfl⟩ := h
    exact ⟨[], [], 70, _, (k72_run F c3 c4 c5).trans ((k72_cp _ c3 c4 c5 _).trans (bind_use hc _)), rfl, rfl, rfl⟩
  · cases h
/-! (*loop.example/g01194/spec.l1Cur).board -/
noncomputable def k54_tab (F : Nat) : Tab := [(60, (k75_ent F)), (61, (k72_ent F)), (62, (k70_ent F)), (63, (k53_ent F))]
theorem k54_tabok (F : Nat) : TabOK Tryz.prog (k54_tab F) := (tab_cons (k75_meets F) k75_fok (tab_cons (k72_meets F) k72_fok (tab_cons (k70_meets F) k70_fok (tab_cons (k53_meets F) k53_fok tab_nil))))
noncomputable def k54_LS0 (F : Nat) : LT := []
theorem k54_lsok0 (F : Nat) : LoopsOK Tryz.prog (k54_LS0 F) (bodyOf Tryz.f31) := loopsOK_nil
theorem k54_keys : keysOK (bodyOf Tryz.f31) = true := by kernel_rfl
def k54_st6 (ge : Bool) (wb : Bool) (r11 : Int) (c13 : List Int) (k12 : Int) (c14 : Int) (c15 : Int) (b17 : List Int) : St := ⟨expand 110 0 [0, 2, 3, 4, 5, 6, 7] [(.ptr 0 0 0 3), (.ptr 1 0 0 16), (.ptr 2 0 0 16), (.bool ge), (.bool wb), (.int .i64 r11), (.int .i64 k12)], [(.var 3 (.rv [(.ri .u8 c13), (.int .i64 c14), (.int .u64 c15)])), (.var 16 (.ri .i64 [(0 : Int), (0 : Int), (0 : Int), (0 : Int), (0 : Int), (0 : Int), (0 : Int), (0 : Int), (0 : Int), (0 : Int), (0 : Int), (0 : Int), (0 : Int), (0 : Int), (0 : Int), (0 : Int)])), (.var 16 (.ri .i64 b17))], 1, []⟩
def k54_o6 (ge : Bool) (wb : Bool) (r11 : Int) (c13 : List Int) (x : Int × Int × List Int) : GT := (.out (.exit 2 ⟨expand 110 0 [0, 2, 3, 4, 5, 6] [(.ptr 0 0 0 3), (.ptr 1 0 0 16), (.ptr 2 0 0 16), (.bool ge), (.bool wb), (.int .i64 r11)], [(.var 3 (.rv [(.ri .u8 c13), (.int .i64 x.1), (.int .u64 x.2.1)])), (.var 16 (.ri .i64 [(0 : Int), (0 : Int), (0 : Int), (0 : Int), (0 : Int), (0 : Int), (0 : Int), (0 : Int), (0 : Int), (0 : Int), (0 : Int), (0 : Int), (0 : Int), (0 : Int), (0 : Int), (0 : Int)])), (.var 16 (.ri .i64 x.2.2))], 1, []⟩))
def k54_ls6 (F : Nat) : LoopS := ⟨110, [0, 2, 3, 4, 5, 6, 7], [], [0, 2, 3, 4, 5, 6], [], [2], [], [], fun vals mem np killed => match vals, mem, np, killed with
  | [(.ptr 0 0 0 3), (.ptr 1 0 0 16), (.ptr 2 0 0 16), (.bool ge), (.bool wb), (.int .i64 r11), (.int .i64 k12)], [(.var 3 (.rv [(.ri .u8 c13), (.int .i64 c14), (.int .u64 c15)])), (.var 16 (.ri .i64 q_t216)), (.var 16 (.ri .i64 b17))], 1, [] => .br ((q_t216 == ([(0 : Int), (0 : Int), (0 : Int), (0 : Int), (0 : Int), (0 : Int), (0 : Int), (0 : Int), (0 : Int), (0 : Int), (0 : Int), (0 : Int), (0 : Int), (0 : Int), (0 : Int), (0 : Int)] : List Int)) && (k54_l6 F ge wb r11 c13 k12 c14 c15 b17).isSome) (k54_o6 ge wb r11 c13 ((k54_l6 F ge wb r11 c13 k12 c14 c15 b17).getD default)) .fail
  | _, _, _, _ => .fail⟩
theorem k54_step6 (F : Nat) (ge : Bool) (wb : Bool) (r11 : Int) (c13 : List Int) (k12 : Int) (c14 : Int) (c15 : Int) (b17 : List Int) {R : Type} (k : Out → Option R) : stepS tt (k54_tab F) (k54_LS0 F) 70 (k54_ls6 F) (loopAt 6 (bodyOf Tryz.f31)) (k54_st6 ge wb r11 c13 k12 c14 c15 b17) k = k54_s6 F ge wb r11 c13 R (k12, c14, c15, b17) (fun s => k (.norm (k54_st6 ge wb r11 c13 s.1 s.2.1 s.2.2.1 s.2.2.2))) (fun x => (k54_o6 ge wb r11 c13 x).run k) := by kernel_rfl
theorem k54_iter6 (F : Nat) (ge : Bool) (wb : Bool) (r11 : Int) (c13 : List Int) {R : Type} (k : Out → Option R) : ∀ (n : Nat) (k12 : Int) (c14 : Int) (c15 : Int) (b17 : List Int), iterS tt (k54_tab F) (k54_LS0 F) 70 (k54_ls6 F) (loopAt 6 (bodyOf Tryz.f31)) n (k54_st6 ge wb r11 c13 k12 c14 c15 b17) k = loopC (k54_s6 F ge wb r11 c13) n (k12, c14, c15, b17) (fun x => (k54_o6 ge wb r11 c13 x).run k)
  | 0, k12, c14, c15, b17 => rfl
  | n + 1, k12, c14, c15, b17 => (iterS_succ tt (k54_tab F) (k54_LS0 F) 70 (k54_ls6 F) (loopAt 6 (bodyOf Tryz.f31)) n (k54_st6 ge wb r11 c13 k12 c14 c15 b17) k).trans ((k54_step6 F ge wb r11 c13 k12 c14 c15 b17 (nextK (iterS tt (k54_tab F) (k54_LS0 F) 70 (k54_ls6 F) (loopAt 6 (bodyOf Tryz.f31)) n) k)).trans (congrArg (fun kn => k54_s6 F ge wb r11 c13 R (k12, c14, c15, b17) kn _) (funext (fun ⟨k12, c14, c15, b17⟩ => k54_iter6 F ge wb r11 c13 k n k12 c14 c15 b17))))
theorem k54_lok6 (F : Nat) : LoopOK Tryz.prog (loopAt 6 (bodyOf Tryz.f31)) (k54_ls6 F) := by
  refine loopOK_of mixed ttok deep (k54_tabok F) (loopsOK_at (k54_lsok0 F) 6) (fuel := 70) fun R vals mem np killed k x h => ?_
  simp only [k54_ls6] at h
  split at h
  · rename_i ge wb r11 k12 c13 c14 c15 q_t216 b17
    simp only [GT.run] at h
    have hc := (cond_noneL h).1
    replace h := (cond_noneL h).2
    have hg := (and_split hc).1
    replace hc := (and_split hc).2
    obtain rfl := beq_li hg
    refine ⟨F, (k54_iter6 F ge wb r11 c13 k F k12 c14 c15 b17).trans ((loopC_use (k54_s6_nat F ge wb r11 c13) hc _).trans h)⟩
  · simp only [GT.run] at h
    cases h
noncomputable def k54_LS1 (F : Nat) : LT := (6, k54_ls6 F) :: k54_LS0 F
theorem k54_lsok1 (F : Nat) : LoopsOK Tryz.prog (k54_LS1 F) (bodyOf Tryz.f31) := loopsOK_cons k54_keys (k54_lok6 F) (k54_lsok0 F)
def k54_st3 (ge : Bool) (wb : Bool) (c12 : List Int) (r11 : Int) (c13 : Int) (c14 : Int) (b16 : List Int) : St := ⟨expand 110 0 [0, 2, 3, 4, 5, 6] [(.ptr 0 0 0 3), (.ptr 1 0 0 16), (.ptr 2 0 0 16), (.bool ge), (.bool wb), (.int .i64 r11)], [(.var 3 (.rv [(.ri .u8 c12), (.int .i64 c13), (.int .u64 c14)])), (.var 16 (.ri .i64 [(0 : Int), (0 : Int), (0 : Int), (0 : Int), (0 : Int), (0 : Int), (0 : Int), (0 : Int), (0 : Int), (0 : Int), (0 : Int), (0 : Int), (0 : Int), (0 : Int), (0 : Int), (0 : Int)])), (.var 16 (.ri .i64 b16))], 1, []⟩
def k54_o3 (ge : Bool) (wb : Bool) (c12 : List Int) (x : Int × Int × List Int) : GT := (.out (.exit 0 ⟨expand 110 0 [0, 2, 3] [(.ptr 0 0 0 3), (.ptr 1 0 0 16), (.ptr 2 0 0 16)], [(.var 3 (.rv [(.ri .u8 c12), (.int .i64 x.1), (.int .u64 x.2.1)])), (.var 16 (.ri .i64 [(0 : Int), (0 : Int), (0 : Int), (0 : Int), (0 : Int), (0 : Int), (0 : Int), (0 : Int), (0 : Int), (0 : Int), (0 : Int), (0 : Int), (0 : Int), (0 : Int), (0 : Int), (0 : Int)])), (.var 16 (.ri .i64 x.2.2))], 1, []⟩))
def k54_ls3 (F : Nat) : LoopS := ⟨110, [0, 2, 3, 4, 5, 6], [], [0, 2, 3], [], [2], [], [], fun vals mem np killed => match vals, mem, np, killed with
  | [(.ptr 0 0 0 3), (.ptr 1 0 0 16), (.ptr 2 0 0 16), (.bool ge), (.bool wb), (.int .i64 r11)], [(.var 3 (.rv [(.ri .u8 c12), (.int .i64 c13), (.int .u64 c14)])), (.var 16 (.ri .i64 q_t215)), (.var 16 (.ri .i64 b16))], 1, [] => .br ((q_t215 == ([(0 : Int), (0 : Int), (0 : Int), (0 : Int), (0 : Int), (0 : Int), (0 : Int), (0 : Int), (0 : Int), (0 : Int), (0 : Int), (0 : Int), (0 : Int), (0 : Int), (0 : Int), (0 : Int)] : List Int)) && (k54_l3 F ge wb c12 r11 c13 c14 b16).isSome) (k54_o3 ge wb c12 ((k54_l3 F ge wb c12 r11 c13 c14 b16).getD default)) .fail
  | _, _, _, _ => .fail⟩
theorem k54_step3 (F : Nat) (ge : Bool) (wb : Bool) (c12 : List Int) (r11 : Int) (c13 : Int) (c14 : Int) (b16 : List Int) {R : Type} (k : Out → Option R) : stepS tt (k54_tab F) (k54_LS1 F) 70 (k54_ls3 F) (loopAt 3 (bodyOf Tryz.f31)) (k54_st3 ge wb c12 r11 c13 c14 b16) k = k54_s3 F ge wb c12 R (r11, c13, c14, b16) (fun s => k (.norm (k54_st3 ge wb c12 s.1 s.2.1 s.2.2.1 s.2.2.2))) (fun x => (k54_o3 ge wb c12 x).run k) := by kernel_rfl
theorem k54_iter3 (F : Nat) (ge : Bool) (wb : Bool) (c12 : List Int) {R : Type} (k : Out → Option R) : ∀ (n : Nat) (r11 : Int) (c13 : Int) (c14 : Int) (b16 : List Int), iterS tt (k54_tab F) (k54_LS1 F) 70 (k54_ls3 F) (loopAt 3 (bodyOf Tryz.f31)) n (k54_st3 ge wb c12 r11 c13 c14 b16) k = loopC (k54_s3 F ge wb c12) n (r11, c13, c14, b16) (fun x => (k54_o3 ge wb c12 x).run k)
  | 0, r11, c13, c14, b16 => rfl
  | n + 1, r11, c13, c14, b16 => (iterS_succ tt (k54_tab F) (k54_LS1 F) 70 (k54_ls3 F) (loopAt 3 (bodyOf Tryz.f31)) n (k54_st3 ge wb c12 r11 c13 c14 b16) k).trans ((k54_step3 F ge wb c12 r11 c13 c14 b16 (nextK (iterS tt (k54_tab F) (k54_LS1 F) 70 (k54_ls3 F) (loopAt 3 (bodyOf Tryz.f31)) n) k)).trans (congrArg (fun kn => k54_s3 F ge wb c12 R (r11, c13, c14, b16) kn _) (funext (fun ⟨r11, c13, c14, b16⟩ => k54_iter3 F ge wb c12 k n r11 c13 c14 b16))))
theorem k54_lok3 (F : Nat) : LoopOK Tryz.prog (loopAt 3 (bodyOf Tryz.f31)) (k54_ls3 F) := by
  refine loopOK_of mixed ttok deep (k54_tabok F) (loopsOK_at (k54_lsok1 F) 3) (fuel := 70) fun R vals mem np killed k x h => ?_
  simp only [k54_ls3] at h
  split at h
  · rename_i ge wb r11 c12 c13 c14 q_t215 b16
    simp only [GT.run] at h
    have hc := (cond_noneL h).1
    replace h := (cond_noneL h).2
    have hg := (and_split hc).1
    replace hc := (and_split hc).2
    obtain rfl := beq_li hg
    refine ⟨F, (k54_iter3 F ge wb c12 k F r11 c13 c14 b16).trans ((loopC_use (k54_s3_nat F ge wb c12) hc _).trans h)⟩
  · simp only [GT.run] at h
    cases h
noncomputable def k54_LS2 (F : Nat) : LT := (3, k54_ls3 F) :: k54_LS1 F
theorem k54_lsok2 (F : Nat) : LoopsOK Tryz.prog (k54_LS2 F) (bodyOf Tryz.f31) := loopsOK_cons k54_keys (k54_lok3 F) (k54_lsok1 F)
def k54_st29 (r9 : Int) (c11 : List Int) (k10 : Int) (c12 : Int) (c13 : Int) (b15 : List Int) : St := ⟨expand 110 0 [0, 2, 3, 11, 12] [(.ptr 0 0 0 3), (.ptr 1 0 0 16), (.ptr 2 0 0 16), (.int .i64 r9), (.int .i64 k10)], [(.var 3 (.rv [(.ri .u8 c11), (.int .i64 c12), (.int .u64 c13)])), (.var 16 (.ri .i64 [(0 : Int), (0 : Int), (0 : Int), (0 : Int), (0 : Int), (0 : Int), (0 : Int), (0 : Int), (0 : Int), (0 : Int), (0 : Int), (0 : Int), (0 : Int), (0 : Int), (0 : Int), (0 : Int)])), (.var 16 (.ri .i64 b15))], 1, []⟩
def k54_o29 (r9 : Int) (c11 : List Int) (x : Int × Int × List Int) : GT := (.out (.exit 7 ⟨expand 110 0 [0, 2, 3, 11] [(.ptr 0 0 0 3), (.ptr 1 0 0 16), (.ptr 2 0 0 16), (.int .i64 r9)], [(.var 3 (.rv [(.ri .u8 c11), (.int .i64 x.1), (.int .u64 x.2.1)])), (.var 16 (.ri .i64 [(0 : Int), (0 : Int), (0 : Int), (0 : Int), (0 : Int), (0 : Int), (0 : Int), (0 : Int), (0 : Int), (0 : Int), (0 : Int), (0 : Int), (0 : Int), (0 : Int), (0 : Int), (0 : Int)])), (.var 16 (.ri .i64 x.2.2))], 1, []⟩))
def k54_ls29 (F : Nat) : LoopS := ⟨110, [0, 2, 3, 11, 12], [], [0, 2, 3, 11], [], [2], [], [], fun vals mem np killed => match vals, mem, np, killed with
  | [(.ptr 0 0 0 3), (.ptr 1 0 0 16), (.ptr 2 0 0 16), (.int .i64 r9), (.int .i64 k10)], [(.var 3 (.rv [(.ri .u8 c11), (.int .i64 c12), (.int .u64 c13)])), (.var 16 (.ri .i64 q_t214)), (.var 16 (.ri .i64 b15))], 1, [] => .br ((q_t214 == ([(0 : Int), (0 : Int), (0 : Int), (0 : Int), (0 : Int), (0 : Int), (0 : Int), (0 : Int), (0 : Int), (0 : Int), (0 : Int), (0 : Int), (0 : Int), (0 : Int), (0 : Int), (0 : Int)] : List Int)) && (k54_l29 F r9 c11 k10 c12 c13 b15).isSome) (k54_o29 r9 c11 ((k54_l29 F r9 c11 k10 c12 c13 b15).getD default)) .fail
  | _, _, _, _ => .fail⟩
theorem k54_step29 (F : Nat) (r9 : Int) (c11 : List Int) (k10 : Int) (c12 : Int) (c13 : Int) (b15 : List Int) {R : Type} (k : Out → Option R) : stepS tt (k54_tab F) (k54_LS2 F) 70 (k54_ls29 F) (loopAt 29 (bodyOf Tryz.f31)) (k54_st29 r9 c11 k10 c12 c13 b15) k = k54_s29 F r9 c11 R (k10, c12, c13, b15) (fun s => k (.norm (k54_st29 r9 c11 s.1 s.2.1 s.2.2.1 s.2.2.2))) (fun x => (k54_o29 r9 c11 x).run k) := by kernel_rfl
theorem k54_iter29 (F : Nat) (r9 : Int) (c11 : List Int) {R : Type} (k : Out → Option R) : ∀ (n : Nat) (k10 : Int) (c12 : Int) (c13 : Int) (b15 : List Int), iterS tt (k54_tab F) (k54_LS2 F) 70 (k54_ls29 F) (loopAt 29 (bodyOf Tryz.f31)) n (k54_st29 r9 c11 k10 c12 c13 b15) k = loopC (k54_s29 F r9 c11) n (k10, c12, c13, b15) (fun x => (k54_o29 r9 c11 x).run k)
  | 0, k10, c12, c13, b15 => rfl
  | n + 1, k10, c12, c13, b15 => (iterS_succ tt (k54_tab F) (k54_LS2 F) 70 (k54_ls29 F) (loopAt 29 (bodyOf Tryz.f31)) n (k54_st29 r9 c11 k10 c12 c13 b15) k).trans ((k54_step29 F r9 c11 k10 c12 c13 b15 (nextK (iterS tt (k54_tab F) (k54_LS2 F) 70 (k54_ls29 F) (loopAt 29 (bodyOf Tryz.f31)) n) k)).trans (congrArg (fun kn => k54_s29 F r9 c11 R (k10, c12, c13, b15) kn _) (funext (fun ⟨k10, c12, c13, b15⟩ => k54_iter29 F r9 c11 k n k10 c12 c13 b15))))
theorem k54_lok29 (F : Nat) : LoopOK Tryz.prog (loopAt 29 (bodyOf Tryz.f31)) (k54_ls29 F) := by
  refine loopOK_of mixed ttok deep (k54_tabok F) (loopsOK_at (k54_lsok2 F) 29) (fuel := 70) fun R vals mem np killed k x h => ?_
  simp only [k54_ls29] at h
  split at h
  · rename_i r9 k10 c11 c12 c13 q_t214 b15
    simp only [GT.run] at h
    have hc := (cond_noneL h).1
    replace h := (cond_noneL h).2
    have hg := (and_split hc).1
    replace hc := (and_split hc).2
    obtain rfl := beq_li hg
    refine ⟨F, (k54_iter29 F r9 c11 k F k10 c12 c13 b15).trans ((loopC_use (k54_s29_nat F r9 c11) hc _).trans h)⟩
  · simp only [GT.run] at h
    cases h
noncomputable def k54_LS3 (F : Nat) : LT := (29, k54_ls29 F) :: k54_LS2 F
theorem k54_lsok3 (F : Nat) : LoopsOK Tryz.prog (k54_LS3 F) (bodyOf Tryz.f31) := loopsOK_cons k54_keys (k54_lok29 F) (k54_lsok2 F)
def k54_st26 (c10 : List Int) (r9 : Int) (c11 : Int) (c12 : Int) (b14 : List Int) : St := ⟨expand 110 0 [0, 2, 3, 11] [(.ptr 0 0 0 3), (.ptr 1 0 0 16), (.ptr 2 0 0 16), (.int .i64 r9)], [(.var 3 (.rv [(.ri .u8 c10), (.int .i64 c11), (.int .u64 c12)])), (.var 16 (.ri .i64 [(0 : Int), (0 : Int), (0 : Int), (0 : Int), (0 : Int), (0 : Int), (0 : Int), (0 : Int), (0 : Int), (0 : Int), (0 : Int), (0 : Int), (0 : Int), (0 : Int), (0 : Int), (0 : Int)])), (.var 16 (.ri .i64 b14))], 1, []⟩
def k54_o26 (c10 : List Int) (x : Int × Int × List Int) : GT := (.out (.exit 5 ⟨expand 110 0 [2, 3] [(.ptr 1 0 0 16), (.ptr 2 0 0 16)], [(.var 3 (.rv [(.ri .u8 c10), (.int .i64 x.1), (.int .u64 x.2.1)])), (.var 16 (.ri .i64 [(0 : Int), (0 : Int), (0 : Int), (0 : Int), (0 : Int), (0 : Int), (0 : Int), (0 : Int), (0 : Int), (0 : Int), (0 : Int), (0 : Int), (0 : Int), (0 : Int), (0 : Int), (0 : Int)])), (.var 16 (.ri .i64 x.2.2))], 1, []⟩))
def k54_ls26 (F : Nat) : LoopS := ⟨110, [0, 2, 3, 11], [], [2, 3], [], [2], [], [], fun vals mem np killed => match vals, mem, np, killed with
  | [(.ptr 0 0 0 3), (.ptr 1 0 0 16), (.ptr 2 0 0 16), (.int .i64 r9)], [(.var 3 (.rv [(.ri .u8 c10), (.int .i64 c11), (.int .u64 c12)])), (.var 16 (.ri .i64 q_t213)), (.var 16 (.ri .i64 b14))], 1, [] => .br ((q_t213 == ([(0 : Int), (0 : Int), (0 : Int), (0 : Int), (0 : Int), (0 : Int), (0 : Int), (0 : Int), (0 : Int), (0 : Int), (0 : Int), (0 : Int), (0 : Int), (0 : Int), (0 : Int), (0 : Int)] : List Int)) && (k54_l26 F c10 r9 c11 c12 b14).isSome) (k54_o26 c10 ((k54_l26 F c10 r9 c11 c12 b14).getD default)) .fail
  | _, _, _, _ => .fail⟩
theorem k54_step26 (F : Nat) (c10 : List Int) (r9 : Int) (c11 : Int) (c12 : Int) (b14 : List Int) {R : Type} (k : Out → Option R) : stepS tt (k54_tab F) (k54_LS3 F) 70 (k54_ls26 F) (loopAt 26 (bodyOf Tryz.f31)) (k54_st26 c10 r9 c11 c12 b14) k = k54_s26 F c10 R (r9, c11, c12, b14) (fun s => k (.norm (k54_st26 c10 s.1 s.2.1 s.2.2.1 s.2.2.2))) (fun x => (k54_o26 c10 x).run k) := by kernel_rfl
theorem k54_iter26 (F : Nat) (c10 : List Int) {R : Type} (k : Out → Option R) : ∀ (n : Nat) (r9 : Int) (c11 : Int) (c12 : Int) (b14 : List Int), iterS tt (k54_tab F) (k54_LS3 F) 70 (k54_ls26 F) (loopAt 26 (bodyOf Tryz.f31)) n (k54_st26 c10 r9 c11 c12 b14) k = loopC (k54_s26 F c10) n (r9, c11, c12, b14) (fun x => (k54_o26 c10 x).run k)
  | 0, r9, c11, c12, b14 => rfl
  | n + 1, r9, c11, c12, b14 => (iterS_succ tt (k54_tab F) (k54_LS3 F) 70 (k54_ls26 F) (loopAt 26 (bodyOf Tryz.f31)) n (k54_st26 c10 r9 c11 c12 b14) k).trans ((k54_step26 F c10 r9 c11 c12 b14 (nextK (iterS tt (k54_tab F) (k54_LS3 F) 70 (k54_ls26 F) (loopAt 26 (bodyOf Tryz.f31)) n) k)).trans (congrArg (fun kn => k54_s26 F c10 R (r9, c11, c12, b14) kn _) (funext (fun ⟨r9, c11, c12, b14⟩ => k54_iter26 F c10 k n r9 c11 c12 b14))))
theorem k54_lok26 (F : Nat) : LoopOK Tryz.prog (loopAt 26 (bodyOf Tryz.f31)) (k54_ls26 F) := by
  refine loopOK_of mixed ttok deep (k54_tabok F) (loopsOK_at (k54_lsok3 F) 26) (fuel := 70) fun R vals mem np killed k x h => ?_
  simp only [k54_ls26] at h
  split at h
  · rename_i r9 c10 c11 c12 q_t213 b14
    simp only [GT.run] at h
    have hc := (cond_noneL h).1
    replace h := (cond_noneL h).2
    have hg := (and_split hc).1
    replace hc := (and_split hc).2
    obtain rfl := beq_li hg
    refine ⟨F, (k54_iter26 F c10 k F r9 c11 c12 b14).trans ((loopC_use (k54_s26_nat F c10) hc _).trans h)⟩
  · simp only [GT.run] at h
    cases h
noncomputable def k54_LS4 (F : Nat) : LT := (26, k54_ls26 F) :: k54_LS3 F
theorem k54_lsok4 (F : Nat) : LoopsOK Tryz.prog (k54_LS4 F) (bodyOf Tryz.f31) := loopsOK_cons k54_keys (k54_lok26 F) (k54_lsok3 F)
theorem k54_run (F : Nat) (c3 : List Int) (c4 : Int) (c5 : Int) : runS tt (k54_tab F) (k54_LS4 F) [] [] Tryz.f31 (bodyOf Tryz.f31) 70 [(.ptr 0 0 0 3)] [(.var 3 (.rv [(.ri .u8 c3), (.int .i64 c4), (.int .u64 c5)]))] = k54_c _ F c3 c4 c5 (fun r => some ⟨(.ints 16 r.1), [(.var 3 (.rv [(.ri .u8 c3), (.int .i64 r.2.1), (.int .u64 r.2.2)]))], []⟩) := by kernel_rfl
def k54_ent (F : Nat) : Ent := ⟨[], .loud, fun args mem => match args, mem with
  | [(.ptr 0 0 0 3)], [(.var 3 (.rv [(.ri .u8 c3), (.int .i64 c4), (.int .u64 c5)]))] => some ((k54_p F c3 c4 c5).isSome, ⟨(.ints 16 ((k54_p F c3 c4 c5).getD default).1), [(.var 3 (.rv [(.ri .u8 c3), (.int .i64 ((k54_p F c3 c4 c5).getD default).2.1), (.int .u64 ((k54_p F c3 c4 c5).getD default).2.2)]))], []⟩)
  | _, _ => none⟩
theorem k54_fok : FunOK Tryz.prog 31 := funOK Tryz.func31 (by kernel_rfl) rfl
theorem k54_meets (F : Nat) : Meets Tryz.prog 31 (k54_ent F) := by
  refine meets_of_runS mixed ttok deep (k54_tabok F) Tryz.func31 (body_some rfl) (k54_lsok4 F) fun args mem hfit ret h => ?_
  clear hfit
  simp only [k54_ent] at h
  split at h
  · rename_i c3 c4 c5
    simp only [Option.some.injEq, Prod.mk.injEq] at h
    obtain ⟨hc, rfl⟩ := h
    exact ⟨[], [], 70, _, (k54_run F c3 c4 c5).trans ((k54_cp _ F c3 c4 c5 _).trans (bind_use hc _)), rfl, rfl, rfl⟩
  · cases h
/-! (*loop.example/g01194/spec.l1Cur).side -/
noncomputable def k71_tab (F : Nat) : Tab := [(60, (k75_ent F)), (63, (k53_ent F)), (62, (k70_ent F))]
theorem k71_tabok (F : Nat) : TabOK Tryz.prog (k71_tab F) := (tab_cons (k75_meets F) k75_fok (tab_cons (k53_meets F) k53_fok (tab_cons (k70_meets F) k70_fok tab_nil)))
noncomputable def k71_LS0 (F : Nat) : LT := []
theorem k71_lsok0 (F : Nat) : LoopsOK Tryz.prog (k71_LS0 F) (bodyOf Tryz.f32) := loopsOK_nil
theorem k71_run (F : Nat) (c3 : List Int) (c4 : Int) (c5 : Int) : runS tt (k71_tab F) (k71_LS0 F) [] [] Tryz.f32 (bodyOf Tryz.f32) 70 [(.ptr 0 0 0 3)] [(.var 3 (.rv [(.ri .u8 c3), (.int .i64 c4), (.int .u64 c5)]))] = k71_c _ c3 c4 c5 (fun r => some ⟨(.int .i64 r.1), [(.var 3 (.rv [(.ri .u8 c3), (.int .i64 r.2.1), (.int .u64 r.2.2)]))], []⟩) := by kernel_rfl
def k71_ent (F : Nat) : Ent := ⟨[], .loud, fun args mem => match args, mem with
  | [(.ptr 0 0 0 3)], [(.var 3 (.rv [(.ri .u8 c3), (.int .i64 c4), (.int .u64 c5)]))] => some ((k71_p c3 c4 c5).isSome, ⟨(.int .i64 ((k71_p c3 c4 c5).getD default).1), [(.var 3 (.rv [(.ri .u8 c3), (.int .i64 ((k71_p c3 c4 c5).getD default).2.1), (.int .u64 ((k71_p c3 c4 c5).getD default).2.2)]))], []⟩)
  | _, _ => none⟩
theorem k71_fok : FunOK Tryz.prog 32 := funOK Tryz.func32 (by kernel_rfl) rfl
theorem k71_meets (F : Nat) : Meets Tryz.prog 32 (k71_ent F) := by
  refine meets_of_runS mixed ttok deep (k71_tabok F) Tryz.func32 (body_some rfl) (k71_lsok0 F) fun args mem hfit ret h => ?_
  clear hfit
  simp only [k71_ent] at h
  split at h
  · rename_i c3 c4 c5
    simp only [Option.some.injEq, Prod.mk.injEq] at h
    obtain ⟨hc, rfl⟩ := h
    exact ⟨[], [], 70, _, (k71_run F c3 c4 c5).trans ((k71_cp _ c3 c4 c5 _).trans (bind_use hc _)), rfl, rfl, rfl⟩
  · cases h
/-! loop.example/g01194/spec.l1In -/
noncomputable def k115_tab (F : Nat) : Tab := []
theorem k115_tabok (F : Nat) : TabOK Tryz.prog (k115_tab F) := tab_nil
noncomputable def k115_LS0 (F : Nat) : LT := []
theorem k115_lsok0 (F : Nat) : LoopsOK Tryz.prog (k115_LS0 F) (bodyOf Tryz.f46) := loopsOK_nil
theorem k115_run (F : Nat) (x0 : Int) (a1 : Int) (b2 : Int) : runS tt (k115_tab F) (k115_LS0 F) [] [] Tryz.f46 (bodyOf Tryz.f46) 70 [(.int .i64 x0), (.int .i64 a1), (.int .i64 b2)] [] = k115_c _ x0 a1 b2 (fun r => some ⟨(.bool r), [], []⟩) := by kernel_rfl
def k115_ent (F : Nat) : Ent := ⟨[], .quiet, fun args mem => match args, mem with
  | [(.int .i64 x0), (.int .i64 a1), (.int .i64 b2)], [] => some (true, ⟨(.bool (k115_v x0 a1 b2)), [], []⟩)
  | _, _ => none⟩
theorem k115_fok : FunOK Tryz.prog 46 := funOK Tryz.func46 (by kernel_rfl) rfl
theorem k115_meets (F : Nat) : Meets Tryz.prog 46 (k115_ent F) := by
  refine meets_of_runS mixed ttok deep (k115_tabok F) Tryz.func46 (body_some rfl) (k115_lsok0 F) fun args mem hfit ret h => ?_
  clear hfit
  simp only [k115_ent] at h
  split at h
  · rename_i x0 a1 b2
    simp only [Option.some.injEq, Prod.mk.injEq] at h
    obtain ⟨hc, rfl⟩ := h
    exact ⟨[], [], 70, _, (k115_run F x0 a1 b2).trans (k115_cv _ x0 a1 b2 _), rfl, rfl, rfl⟩
  · cases h
/-! loop.example/g01194/spec.l2Board -/
noncomputable def k91_tab (F : Nat) : Tab := [(46, (k115_ent F))]
theorem k91_tabok (F : Nat) : TabOK Tryz.prog (k91_tab F) := (tab_cons (k115_meets F) k115_fok tab_nil)
noncomputable def k91_LS0 (F : Nat) : LT := []
theorem k91_lsok0 (F : Nat) : LoopsOK Tryz.prog (k91_LS0 F) (bodyOf Tryz.f19) := loopsOK_nil
theorem k91_keys : keysOK (bodyOf Tryz.f19) = true := by kernel_rfl
def k91_st5 (r3 : Int) (b5 : List Int) (c4 : Int) : St := ⟨expand 21 0 [1, 3, 4] [(.ptr 0 0 0 16), (.int .i64 r3), (.int .i64 c4)], [(.var 16 (.ri .i64 b5))], 0, []⟩
def k91_o5 (r3 : Int) (b5 : List Int) (x : Bool) : GT := (.br x (.out (.ret ⟨expand 21 0 [2] [(.bool false)], [], 0, []⟩)) (.out (.exit 2 ⟨expand 21 0 [1, 3] [(.ptr 0 0 0 16), (.int .i64 r3)], [(.var 16 (.ri .i64 b5))], 0, []⟩)))
def k91_ls5 (F : Nat) : LoopS := ⟨21, [1, 3, 4], [], [1, 3], [], [2], [], [], fun vals mem np killed => match vals, mem, np, killed with
  | [(.ptr 0 0 0 16), (.int .i64 r3), (.int .i64 c4)], [(.var 16 (.ri .i64 b5))], 0, [] => .br (k91_l5 F r3 b5 c4).isSome (k91_o5 r3 b5 ((k91_l5 F r3 b5 c4).getD default)) .fail
  | _, _, _, _ => .fail⟩
theorem k91_step5 (F : Nat) (r3 : Int) (b5 : List Int) (c4 : Int) {R : Type} (k : Out → Option R) : stepS tt (k91_tab F) (k91_LS0 F) 70 (k91_ls5 F) (loopAt 5 (bodyOf Tryz.f19)) (k91_st5 r3 b5 c4) k = k91_s5 F r3 b5 R c4 (fun s => k (.norm (k91_st5 r3 b5 s))) (fun x => (k91_o5 r3 b5 x).run k) := by kernel_rfl
theorem k91_iter5 (F : Nat) (r3 : Int) (b5 : List Int) {R : Type} (k : Out → Option R) : ∀ (n : Nat) (c4 : Int), iterS tt (k91_tab F) (k91_LS0 F) 70 (k91_ls5 F) (loopAt 5 (bodyOf Tryz.f19)) n (k91_st5 r3 b5 c4) k = loopC (k91_s5 F r3 b5) n c4 (fun x => (k91_o5 r3 b5 x).run k)
  | 0, c4 => rfl
  | n + 1, c4 => (iterS_succ tt (k91_tab F) (k91_LS0 F) 70 (k91_ls5 F) (loopAt 5 (bodyOf Tryz.f19)) n (k91_st5 r3 b5 c4) k).trans ((k91_step5 F r3 b5 c4 (nextK (iterS tt (k91_tab F) (k91_LS0 F) 70 (k91_ls5 F) (loopAt 5 (bodyOf Tryz.f19)) n) k)).trans (congrArg (fun kn => k91_s5 F r3 b5 R c4 kn _) (funext (fun c4 => k91_iter5 F r3 b5 k n c4))))
theorem k91_lok5 (F : Nat) : LoopOK Tryz.prog (loopAt 5 (bodyOf Tryz.f19)) (k91_ls5 F) := by
  refine loopOK_of mixed ttok deep (k91_tabok F) (loopsOK_at (k91_lsok0 F) 5) (fuel := 70) fun R vals mem np killed k x h => ?_
  simp only [k91_ls5] at h
  split at h
  · rename_i r3 c4 b5
    simp only [GT.run] at h
    have hc := (cond_noneL h).1
    replace h := (cond_noneL h).2
    refine ⟨F, (k91_iter5 F r3 b5 k F c4).trans ((loopC_use (k91_s5_nat F r3 b5) hc _).trans h)⟩
  · simp only [GT.run] at h
    cases h
noncomputable def k91_LS1 (F : Nat) : LT := (5, k91_ls5 F) :: k91_LS0 F
theorem k91_lsok1 (F : Nat) : LoopsOK Tryz.prog (k91_LS1 F) (bodyOf Tryz.f19) := loopsOK_cons k91_keys (k91_lok5 F) (k91_lsok0 F)
def k91_st2 (b4 : List Int) (r3 : Int) : St := ⟨expand 21 0 [1, 3] [(.ptr 0 0 0 16), (.int .i64 r3)], [(.var 16 (.ri .i64 b4))], 0, []⟩
def k91_o2 (b4 : List Int) (x : Bool) : GT := (.br x (.out (.ret ⟨expand 21 0 [2] [(.bool false)], [], 0, []⟩)) (.out (.exit 0 ⟨expand 21 0 [] [], [], 0, []⟩)))
def k91_ls2 (F : Nat) : LoopS := ⟨21, [1, 3], [], [], [], [2], [], [], fun vals mem np killed => match vals, mem, np, killed with
  | [(.ptr 0 0 0 16), (.int .i64 r3)], [(.var 16 (.ri .i64 b4))], 0, [] => .br (k91_l2 F b4 r3).isSome (k91_o2 b4 ((k91_l2 F b4 r3).getD default)) .fail
  | _, _, _, _ => .fail⟩
theorem k91_step2 (F : Nat) (b4 : List Int) (r3 : Int) {R : Type} (k : Out → Option R) : stepS tt (k91_tab F) (k91_LS1 F) 70 (k91_ls2 F) (loopAt 2 (bodyOf Tryz.f19)) (k91_st2 b4 r3) k = k91_s2 F b4 R r3 (fun s => k (.norm (k91_st2 b4 s))) (fun x => (k91_o2 b4 x).run k) := by kernel_rfl
theorem k91_iter2 (F : Nat) (b4 : List Int) {R : Type} (k : Out → Option R) : ∀ (n : Nat) (r3 : Int), iterS tt (k91_tab F) (k91_LS1 F) 70 (k91_ls2 F) (loopAt 2 (bodyOf Tryz.f19)) n (k91_st2 b4 r3) k = loopC (k91_s2 F b4) n r3 (fun x => (k91_o2 b4 x).run k)
  | 0, r3 => rfl
  | n + 1, r3 => (iterS_succ tt (k91_tab F) (k91_LS1 F) 70 (k91_ls2 F) (loopAt 2 (bodyOf Tryz.f19)) n (k91_st2 b4 r3) k).trans ((k91_step2 F b4 r3 (nextK (iterS tt (k91_tab F) (k91_LS1 F) 70 (k91_ls2 F) (loopAt 2 (bodyOf Tryz.f19)) n) k)).trans (congrArg (fun kn => k91_s2 F b4 R r3 kn _) (funext (fun r3 => k91_iter2 F b4 k n r3))))
theorem k91_lok2 (F : Nat) : LoopOK Tryz.prog (loopAt 2 (bodyOf Tryz.f19)) (k91_ls2 F) := by
  refine loopOK_of mixed ttok deep (k91_tabok F) (loopsOK_at (k91_lsok1 F) 2) (fuel := 70) fun R vals mem np killed k x h => ?_
  simp only [k91_ls2] at h
  split at h
  · rename_i r3 b4
    simp only [GT.run] at h
    have hc := (cond_noneL h).1
    replace h := (cond_noneL h).2
    refine ⟨F, (k91_iter2 F b4 k F r3).trans ((loopC_use (k91_s2_nat F b4) hc _).trans h)⟩
  · simp only [GT.run] at h
    cases h
noncomputable def k91_LS2 (F : Nat) : LT := (2, k91_ls2 F) :: k91_LS1 F
theorem k91_lsok2 (F : Nat) : LoopsOK Tryz.prog (k91_LS2 F) (bodyOf Tryz.f19) := loopsOK_cons k91_keys (k91_lok2 F) (k91_lsok1 F)
theorem k91_run (F : Nat) (b0 : List Int) : runS tt (k91_tab F) (k91_LS2 F) [] [] Tryz.f19 (bodyOf Tryz.f19) 70 [(.ints 16 b0)] [] = k91_c _ F b0 (fun r => some ⟨(.bool r), [], []⟩) := by kernel_rfl
def k91_ent (F : Nat) : Ent := ⟨[], .quiet, fun args mem => match args, mem with
  | [(.ints 16 b0)], [] => some ((k91_p F b0).isSome, ⟨(.bool ((k91_p F b0).getD default)), [], []⟩)
  | _, _ => none⟩
theorem k91_fok : FunOK Tryz.prog 19 := funOK Tryz.func19 (by kernel_rfl) rfl
theorem k91_meets (F : Nat) : Meets Tryz.prog 19 (k91_ent F) := by
  refine meets_of_runS mixed ttok deep (k91_tabok F) Tryz.func19 (body_some rfl) (k91_lsok2 F) fun args mem hfit ret h => ?_
  clear hfit
  simp only [k91_ent] at h
  split at h
  · rename_i b0
    simp only [Option.some.injEq, Prod.mk.injEq] at h
    obtain ⟨hc, rfl⟩ := h
    exact ⟨[], [], 70, _, (k91_run F b0).trans ((k91_cp _ F b0 _).trans (bind_use hc _)), rfl, rfl, rfl⟩
  · cases h
/-! loop.example/g01194/spec.l2Side -/
noncomputable def k101_tab (F : Nat) : Tab := [(46, (k115_ent F))]
theorem k101_tabok (F : Nat) : TabOK Tryz.prog (k101_tab F) := (tab_cons (k115_meets F) k115_fok tab_nil)
noncomputable def k101_LS0 (F : Nat) : LT := []
theorem k101_lsok0 (F : Nat) : LoopsOK Tryz.prog (k101_LS0 F) (bodyOf Tryz.f20) := loopsOK_nil
theorem k101_run (F : Nat) (d0 : Int) : runS tt (k101_tab F) (k101_LS0 F) [] [] Tryz.f20 (bodyOf Tryz.f20) 70 [(.int .i64 d0)] [] = k101_c _ d0 (fun r => some ⟨(.bool r), [], []⟩) := by kernel_rfl
def k101_ent (F : Nat) : Ent := ⟨[], .quiet, fun args mem => match args, mem with
  | [(.int .i64 d0)], [] => some (true, ⟨(.bool (k101_v d0)), [], []⟩)
  | _, _ => none⟩
theorem k101_fok : FunOK Tryz.prog 20 := funOK Tryz.func20 (by kernel_rfl) rfl
theorem k101_meets (F : Nat) : Meets Tryz.prog 20 (k101_ent F) := by
  refine meets_of_runS mixed ttok deep (k101_tabok F) Tryz.func20 (body_some rfl) (k101_lsok0 F) fun args mem hfit ret h => ?_
  clear hfit
  simp only [k101_ent] at h
  split at h
  · rename_i d0
    simp only [Option.some.injEq, Prod.mk.injEq] at h
    obtain ⟨hc, rfl⟩ := h
    exact ⟨[], [], 70, _, (k101_run F d0).trans (k101_cv _ d0 _), rfl, rfl, rfl⟩
  · cases h
/-! loop.example/g01194/spec.l2Line -/
noncomputable def k100_tab (F : Nat) : Tab := []
theorem k100_tabok (F : Nat) : TabOK Tryz.prog (k100_tab F) := tab_nil
noncomputable def k100_LS0 (F : Nat) : LT := []
theorem k100_lsok0 (F : Nat) : LoopsOK Tryz.prog (k100_LS0 F) (bodyOf Tryz.f48) := loopsOK_nil
theorem k100_keys : keysOK (bodyOf Tryz.f48) = true := by kernel_rfl
def k100_st3 (d0 : Int) (i1 : Int) (k8 : Int) (we : List Int) : St := ⟨expand 42 0 [0, 1, 4, 5, 6] [(.int .i64 d0), (.int .i64 i1), (.ptr 0 0 0 8), (.ptr 1 0 0 8), (.int .i64 k8)], [(.var 8 (.ri .i64 [(0 : Int), (0 : Int), (0 : Int), (0 : Int), (0 : Int), (0 : Int), (0 : Int), (0 : Int)])), (.var 8 (.ri .i64 we))], 0, []⟩
def k100_o3 (d0 : Int) (i1 : Int) (x : List Int) : GT := (.out (.exit 0 ⟨expand 42 0 [4, 5] [(.ptr 0 0 0 8), (.ptr 1 0 0 8)], [(.var 8 (.ri .i64 [(0 : Int), (0 : Int), (0 : Int), (0 : Int), (0 : Int), (0 : Int), (0 : Int), (0 : Int)])), (.var 8 (.ri .i64 x))], 0, []⟩))
def k100_ls3 (F : Nat) : LoopS := ⟨42, [0, 1, 4, 5, 6], [], [4, 5], [], [4], [], [], fun vals mem np killed => match vals, mem, np, killed with
  | [(.int .i64 d0), (.int .i64 i1), (.ptr 0 0 0 8), (.ptr 1 0 0 8), (.int .i64 k8)], [(.var 8 (.ri .i64 q_t49)), (.var 8 (.ri .i64 we))], 0, [] => .br ((q_t49 == ([(0 : Int), (0 : Int), (0 : Int), (0 : Int), (0 : Int), (0 : Int), (0 : Int), (0 : Int)] : List Int)) && (k100_l3 F d0 i1 k8 we).isSome) (k100_o3 d0 i1 ((k100_l3 F d0 i1 k8 we).getD default)) .fail
  | _, _, _, _ => .fail⟩
theorem k100_step3 (F : Nat) (d0 : Int) (i1 : Int) (k8 : Int) (we : List Int) {R : Type} (k : Out → Option R) : stepS tt (k100_tab F) (k100_LS0 F) 70 (k100_ls3 F) (loopAt 3 (bodyOf Tryz.f48)) (k100_st3 d0 i1 k8 we) k = k100_s3 F d0 i1 R (k8, we) (fun s => k (.norm (k100_st3 d0 i1 s.1 s.2))) (fun x => (k100_o3 d0 i1 x).run k) := by kernel_rfl
theorem k100_iter3 (F : Nat) (d0 : Int) (i1 : Int) {R : Type} (k : Out → Option R) : ∀ (n : Nat) (k8 : Int) (we : List Int), iterS tt (k100_tab F) (k100_LS0 F) 70 (k100_ls3 F) (loopAt 3 (bodyOf Tryz.f48)) n (k100_st3 d0 i1 k8 we) k = loopC (k100_s3 F d0 i1) n (k8, we) (fun x => (k100_o3 d0 i1 x).run k)
  | 0, k8, we => rfl
  | n + 1, k8, we => (iterS_succ tt (k100_tab F) (k100_LS0 F) 70 (k100_ls3 F) (loopAt 3 (bodyOf Tryz.f48)) n (k100_st3 d0 i1 k8 we) k).trans ((k100_step3 F d0 i1 k8 we (nextK (iterS tt (k100_tab F) (k100_LS0 F) 70 (k100_ls3 F) (loopAt 3 (bodyOf Tryz.f48)) n) k)).trans (congrArg (fun kn => k100_s3 F d0 i1 R (k8, we) kn _) (funext (fun ⟨k8, we⟩ => k100_iter3 F d0 i1 k n k8 we))))
theorem k100_lok3 (F : Nat) : LoopOK Tryz.prog (loopAt 3 (bodyOf Tryz.f48)) (k100_ls3 F) := by
  refine loopOK_of mixed ttok deep (k100_tabok F) (loopsOK_at (k100_lsok0 F) 3) (fuel := 70) fun R vals mem np killed k x h => ?_
  simp only [k100_ls3] at h
  split at h
  · rename_i d0 i1 k8 q_t49 we
    simp only [GT.run] at h
    have hc := (cond_noneL h).1
    replace h := (cond_noneL h).2
    have hg := (and_split hc).1
    replace hc := (and_split hc).2
    obtain rfl := beq_li hg
    refine ⟨F, (k100_iter3 F d0 i1 k F k8 we).trans ((loopC_use (k100_s3_nat F d0 i1) hc _).trans h)⟩
  · simp only [GT.run] at h
    cases h
noncomputable def k100_LS1 (F : Nat) : LT := (3, k100_ls3 F) :: k100_LS0 F
theorem k100_lsok1 (F : Nat) : LoopsOK Tryz.prog (k100_LS1 F) (bodyOf Tryz.f48) := loopsOK_cons k100_keys (k100_lok3 F) (k100_lsok0 F)
theorem k100_run (F : Nat) (d0 : Int) (i1 : Int) : runS tt (k100_tab F) (k100_LS1 F) [] [] Tryz.f48 (bodyOf Tryz.f48) 70 [(.int .i64 d0), (.int .i64 i1)] [] = k100_c _ F d0 i1 (fun r => some ⟨(.ints 8 r), [], []⟩) := by kernel_rfl
def k100_ent (F : Nat) : Ent := ⟨[], .quiet, fun args mem => match args, mem with
  | [(.int .i64 d0), (.int .i64 i1)], [] => some ((k100_p F d0 i1).isSome, ⟨(.ints 8 ((k100_p F d0 i1).getD default)), [], []⟩)
  | _, _ => none⟩
theorem k100_fok : FunOK Tryz.prog 48 := funOK Tryz.func48 (by kernel_rfl) rfl
theorem k100_meets (F : Nat) : Meets Tryz.prog 48 (k100_ent F) := by
  refine meets_of_runS mixed ttok deep (k100_tabok F) Tryz.func48 (body_some rfl) (k100_lsok1 F) fun args mem hfit ret h => ?_
  clear hfit
  simp only [k100_ent] at h
  split at h
  · rename_i d0 i1
    simp only [Option.some.injEq, Prod.mk.injEq] at h
    obtain ⟨hc, rfl⟩ := h
    exact ⟨[], [], 70, _, (k100_run F d0 i1).trans ((k100_cp _ F d0 i1 _).trans (bind_use hc _)), rfl, rfl, rfl⟩
  · cases h
/-! loop.example/g01194/spec.l2At -/
noncomputable def k116_tab (F : Nat) : Tab := []
theorem k116_tabok (F : Nat) : TabOK Tryz.prog (k116_tab F) := tab_nil
noncomputable def k116_LS0 (F : Nat) : LT := []
theorem k116_lsok0 (F : Nat) : LoopsOK Tryz.prog (k116_LS0 F) (bodyOf Tryz.f85) := loopsOK_nil
theorem k116_run (F : Nat) (b0 : List Int) (yi : List Int) : runS tt (k116_tab F) (k116_LS0 F) [] [] Tryz.f85 (bodyOf Tryz.f85) 70 [(.ints 16 b0), (.ints 2 yi)] [] = k116_c _ b0 yi (fun r => some ⟨(.int .i64 r), [], []⟩) := by kernel_rfl
def k116_ent (F : Nat) : Ent := ⟨[], .quiet, fun args mem => match args, mem with
  | [(.ints 16 b0), (.ints 2 yi)], [] => some ((k116_p b0 yi).isSome, ⟨(.int .i64 ((k116_p b0 yi).getD default)), [], []⟩)
  | _, _ => none⟩
theorem k116_fok : FunOK Tryz.prog 85 := funOK Tryz.func85 (by kernel_rfl) rfl
theorem k116_meets (F : Nat) : Meets Tryz.prog 85 (k116_ent F) := by
  refine meets_of_runS mixed ttok deep (k116_tabok F) Tryz.func85 (body_some rfl) (k116_lsok0 F) fun args mem hfit ret h => ?_
  clear hfit
  simp only [k116_ent] at h
  split at h
  · rename_i b0 yi
    simp only [Option.some.injEq, Prod.mk.injEq] at h
    obtain ⟨hc, rfl⟩ := h
    exact ⟨[], [], 70, _, (k116_run F b0 yi).trans ((k116_cp _ b0 yi _).trans (bind_use hc _)), rfl, rfl, rfl⟩
  · cases h
/-! loop.example/g01194/spec.l2Numbers -/
noncomputable def k76_tab (F : Nat) : Tab := [(48, (k100_ent F)), (85, (k116_ent F))]
theorem k76_tabok (F : Nat) : TabOK Tryz.prog (k76_tab F) := (tab_cons (k100_meets F) k100_fok (tab_cons (k116_meets F) k116_fok tab_nil))
noncomputable def k76_LS0 (F : Nat) : LT := []
theorem k76_lsok0 (F : Nat) : LoopsOK Tryz.prog (k76_LS0 F) (bodyOf Tryz.f59) := loopsOK_nil
theorem k76_run (F : Nat) (b0 : List Int) (d1 : Int) (i2 : Int) : runS tt (k76_tab F) (k76_LS0 F) [] [] Tryz.f59 (bodyOf Tryz.f59) 70 [(.ints 16 b0), (.int .i64 d1), (.int .i64 i2)] [] = k76_c _ F b0 d1 i2 (fun r => some ⟨(.ints 4 r), [], []⟩) := by kernel_rfl
def k76_ent (F : Nat) : Ent := ⟨[], .quiet, fun args mem => match args, mem with
  | [(.ints 16 b0), (.int .i64 d1), (.int .i64 i2)], [] => some ((k76_p F b0 d1 i2).isSome, ⟨(.ints 4 ((k76_p F b0 d1 i2).getD default)), [], []⟩)
  | _, _ => none⟩
theorem k76_fok : FunOK Tryz.prog 59 := funOK Tryz.func59 (by kernel_rfl) rfl
theorem k76_meets (F : Nat) : Meets Tryz.prog 59 (k76_ent F) := by
  refine meets_of_runS mixed ttok deep (k76_tabok F) Tryz.func59 (body_some rfl) (k76_lsok0 F) fun args mem hfit ret h => ?_
  clear hfit
  simp only [k76_ent] at h
  split at h
  · rename_i b0 d1 i2
    simp only [Option.some.injEq, Prod.mk.injEq] at h
    obtain ⟨hc, rfl⟩ := h
    exact ⟨[], [], 70, _, (k76_run F b0 d1 i2).trans ((k76_cp _ F b0 d1 i2 _).trans (bind_use hc _)), rfl, rfl, rfl⟩
  · cases h
/-! loop.example/g01194/spec.l2Worth -/
noncomputable def k93_tab (F : Nat) : Tab := []
theorem k93_tabok (F : Nat) : TabOK Tryz.prog (k93_tab F) := tab_nil
noncomputable def k93_LS0 (F : Nat) : LT := []
theorem k93_lsok0 (F : Nat) : LoopsOK Tryz.prog (k93_LS0 F) (bodyOf Tryz.f92) := loopsOK_nil
theorem k93_run (F : Nat) (t0 : Int) : runS tt (k93_tab F) (k93_LS0 F) [] [] Tryz.f92 (bodyOf Tryz.f92) 70 [(.int .i64 t0)] [] = k93_c _ t0 (fun r => some ⟨(.int .i64 r), [], []⟩) := by kernel_rfl
def k93_ent (F : Nat) : Ent := ⟨[], .quiet, fun args mem => match args, mem with
  | [(.int .i64 t0)], [] => some ((k93_p t0).isSome, ⟨(.int .i64 ((k93_p t0).getD default)), [], []⟩)
  | _, _ => none⟩
theorem k93_fok : FunOK Tryz.prog 92 := funOK Tryz.func92 (by kernel_rfl) rfl
theorem k93_meets (F : Nat) : Meets Tryz.prog 92 (k93_ent F) := by
  refine meets_of_runS mixed ttok deep (k93_tabok F) Tryz.func92 (body_some rfl) (k93_lsok0 F) fun args mem hfit ret h => ?_
  clear hfit
  simp only [k93_ent] at h
  split at h
  · rename_i t0
    simp only [Option.some.injEq, Prod.mk.injEq] at h
    obtain ⟨hc, rfl⟩ := h
    exact ⟨[], [], 70, _, (k93_run F t0).trans ((k93_cp _ t0 _).trans (bind_use hc _)), rfl, rfl, rfl⟩
  · cases h
/-! loop.example/g01194/spec.l2Row -/
noncomputable def k112_tab (F : Nat) : Tab := [(92, (k93_ent F))]
theorem k112_tabok (F : Nat) : TabOK Tryz.prog (k112_tab F) := (tab_cons (k93_meets F) k93_fok tab_nil)
noncomputable def k112_LS0 (F : Nat) : LT := []
theorem k112_lsok0 (F : Nat) : LoopsOK Tryz.prog (k112_LS0 F) (bodyOf Tryz.f83) := loopsOK_nil
theorem k112_keys : keysOK (bodyOf Tryz.f83) = true := by kernel_rfl
def k112_st3 (wq : List Int) (n9 : Int) (w8 : Int) (g39 : Bool) (k12 : Int) (gh : List Int) : St := ⟨expand 63 0 [1, 2, 4, 5, 6, 7, 8] [(.ptr 0 0 0 4), (.ptr 1 0 0 4), (.ptr 2 0 0 4), (.int .i64 n9), (.int .i64 w8), (.bool g39), (.int .i64 k12)], [(.var 4 (.ri .i64 wq)), (.var 4 (.ri .i64 [(0 : Int), (0 : Int), (0 : Int), (0 : Int)])), (.var 4 (.ri .i64 gh))], 0, []⟩
def k112_o3 (wq : List Int) (x : Int × List Int) : GT := (.out (.exit 0 ⟨expand 63 0 [2, 4, 6] [(.ptr 0 0 0 4), (.ptr 1 0 0 4), (.int .i64 x.1)], [(.var 4 (.ri .i64 [(0 : Int), (0 : Int), (0 : Int), (0 : Int)])), (.var 4 (.ri .i64 x.2))], 0, []⟩))
def k112_ls3 (F : Nat) : LoopS := ⟨63, [1, 2, 4, 5, 6, 7, 8], [], [2, 4, 6], [], [2, 3], [], [], fun vals mem np killed => match vals, mem, np, killed with
  | [(.ptr 0 0 0 4), (.ptr 1 0 0 4), (.ptr 2 0 0 4), (.int .i64 n9), (.int .i64 w8), (.bool g39), (.int .i64 k12)], [(.var 4 (.ri .i64 wq)), (.var 4 (.ri .i64 q_t214)), (.var 4 (.ri .i64 gh))], 0, [] => .br ((q_t214 == ([(0 : Int), (0 : Int), (0 : Int), (0 : Int)] : List Int)) && (k112_l3 F wq n9 w8 g39 k12 gh).isSome) (k112_o3 wq ((k112_l3 F wq n9 w8 g39 k12 gh).getD default)) .fail
  | _, _, _, _ => .fail⟩
theorem k112_step3 (F : Nat) (wq : List Int) (n9 : Int) (w8 : Int) (g39 : Bool) (k12 : Int) (gh : List Int) {R : Type} (k : Out → Option R) : stepS tt (k112_tab F) (k112_LS0 F) 70 (k112_ls3 F) (loopAt 3 (bodyOf Tryz.f83)) (k112_st3 wq n9 w8 g39 k12 gh) k = k112_s3 F wq R (n9, w8, g39, k12, gh) (fun s => k (.norm (k112_st3 wq s.1 s.2.1 s.2.2.1 s.2.2.2.1 s.2.2.2.2))) (fun x => (k112_o3 wq x).run k) := by kernel_rfl
theorem k112_iter3 (F : Nat) (wq : List Int) {R : Type} (k : Out → Option R) : ∀ (n : Nat) (n9 : Int) (w8 : Int) (g39 : Bool) (k12 : Int) (gh : List Int), iterS tt (k112_tab F) (k112_LS0 F) 70 (k112_ls3 F) (loopAt 3 (bodyOf Tryz.f83)) n (k112_st3 wq n9 w8 g39 k12 gh) k = loopC (k112_s3 F wq) n (n9, w8, g39, k12, gh) (fun x => (k112_o3 wq x).run k)
  | 0, n9, w8, g39, k12, gh => rfl
  | n + 1, n9, w8, g39, k12, gh => (iterS_succ tt (k112_tab F) (k112_LS0 F) 70 (k112_ls3 F) (loopAt 3 (bodyOf Tryz.f83)) n (k112_st3 wq n9 w8 g39 k12 gh) k).trans ((k112_step3 F wq n9 w8 g39 k12 gh (nextK (iterS tt (k112_tab F) (k112_LS0 F) 70 (k112_ls3 F) (loopAt 3 (bodyOf Tryz.f83)) n) k)).trans (congrArg (fun kn => k112_s3 F wq R (n9, w8, g39, k12, gh) kn _) (funext (fun ⟨n9, w8, g39, k12, gh⟩ => k112_iter3 F wq k n n9 w8 g39 k12 gh))))
theorem k112_lok3 (F : Nat) : LoopOK Tryz.prog (loopAt 3 (bodyOf Tryz.f83)) (k112_ls3 F) := by
  refine loopOK_of mixed ttok deep (k112_tabok F) (loopsOK_at (k112_lsok0 F) 3) (fuel := 70) fun R vals mem np killed k x h => ?_
  simp only [k112_ls3] at h
  split at h
  · rename_i n9 w8 g39 k12 wq q_t214 gh
    simp only [GT.run] at h
    have hc := (cond_noneL h).1
    replace h := (cond_noneL h).2
    have hg := (and_split hc).1
    replace hc := (and_split hc).2
    obtain rfl := beq_li hg
    refine ⟨F, (k112_iter3 F wq k F n9 w8 g39 k12 gh).trans ((loopC_use (k112_s3_nat F wq) hc _).trans h)⟩
  · simp only [GT.run] at h
    cases h
noncomputable def k112_LS1 (F : Nat) : LT := (3, k112_ls3 F) :: k112_LS0 F
theorem k112_lsok1 (F : Nat) : LoopsOK Tryz.prog (k112_LS1 F) (bodyOf Tryz.f83) := loopsOK_cons k112_keys (k112_lok3 F) (k112_lsok0 F)
theorem k112_run (F : Nat) (g4 : List Int) : runS tt (k112_tab F) (k112_LS1 F) [] [] Tryz.f83 (bodyOf Tryz.f83) 70 [(.ints 4 g4)] [] = k112_c _ F g4 (fun r => some ⟨(.tup [(.ints 4 r.1), (.int .i64 r.2)]), [], []⟩) := by kernel_rfl
def k112_ent (F : Nat) : Ent := ⟨[], .quiet, fun args mem => match args, mem with
  | [(.ints 4 g4)], [] => some ((k112_p F g4).isSome, ⟨(.tup [(.ints 4 ((k112_p F g4).getD default).1), (.int .i64 ((k112_p F g4).getD default).2)]), [], []⟩)
  | _, _ => none⟩
theorem k112_fok : FunOK Tryz.prog 83 := funOK Tryz.func83 (by kernel_rfl) rfl
theorem k112_meets (F : Nat) : Meets Tryz.prog 83 (k112_ent F) := by
  refine meets_of_runS mixed ttok deep (k112_tabok F) Tryz.func83 (body_some rfl) (k112_lsok1 F) fun args mem hfit ret h => ?_
  clear hfit
  simp only [k112_ent] at h
  split at h
  · rename_i g4
    simp only [Option.some.injEq, Prod.mk.injEq] at h
    obtain ⟨hc, rfl⟩ := h
    exact ⟨[], [], 70, _, (k112_run F g4).trans ((k112_cp _ F g4 _).trans (bind_use hc _)), rfl, rfl, rfl⟩
  · cases h
end Go.Proofs.YtabfliifleonaajGreat
