/-
Pure functions and what the code of them does, by program; without conditions.
-/
import Derived.Test.YtabfliifleonaabQbP5
import Derived.Test.YtabfliifleonaabQbS4
namespace Go.Proofs.Ytabfliifleonaab
open Go Go.Lv Go.Lv.P Go.Proofs
set_option linter.unusedVariables false
set_option linter.unusedSimpArgs false
set_option maxRecDepth 100000
/-! loop.example/g01194/laws.FnReach -/
noncomputable def laws_FnReach_tab (F : Nat) : Tab := [(4, (laws_vBig_ent F)), (5, (spec_DrawReachBySlides_ent F)), (6, (impl_ReachBySlides_ent F)), (7, (spec_ReachBySlides_ent F)), (9, (laws_vCut_ent F)), (8, (spec_DrawFewestSlides_ent F)), (10, (impl_FewestSlides_ent F)), (11, (spec_FewestSlides_ent F)), (12, (impl_FirstSlides_ent F)), (13, (spec_FirstSlides_ent F)), (14, (laws_vBoards_ent F)), (15, (laws_vInts_ent F)), (16, (impl_DoSlides_ent F)), (17, (impl_SumOf_ent F)), (18, (impl_LessBoard_ent F))]
theorem laws_FnReach_tabok (F : Nat) : TabOK Try.prog (laws_FnReach_tab F) := (tab_cons (laws_vBig_meets F) laws_vBig_fok (tab_cons (spec_DrawReachBySlides_meets F) spec_DrawReachBySlides_fok (tab_cons (impl_ReachBySlides_meets F) impl_ReachBySlides_fok (tab_cons (spec_ReachBySlides_meets F) spec_ReachBySlides_fok (tab_cons (laws_vCut_meets F) laws_vCut_fok (tab_cons (spec_DrawFewestSlides_meets F) spec_DrawFewestSlides_fok (tab_cons (impl_FewestSlides_meets F) impl_FewestSlides_fok (tab_cons (spec_FewestSlides_meets F) spec_FewestSlides_fok (tab_cons (impl_FirstSlides_meets F) impl_FirstSlides_fok (tab_cons (spec_FirstSlides_meets F) spec_FirstSlides_fok (tab_cons (laws_vBoards_meets F) laws_vBoards_fok (tab_cons (laws_vInts_meets F) laws_vInts_fok (tab_cons (impl_DoSlides_meets F) impl_DoSlides_fok (tab_cons (impl_SumOf_meets F) impl_SumOf_fok (tab_cons (impl_LessBoard_meets F) impl_LessBoard_fok tab_nil)))))))))))))))
noncomputable def laws_FnReach_LS0 (F : Nat) : LT := []
theorem laws_FnReach_lsok0 (F : Nat) : LoopsOK Try.prog (laws_FnReach_LS0 F) (bodyOf Try.f3) := loopsOK_nil
theorem laws_FnReach_keys : keysOK (bodyOf Try.f3) = true := by kernel_rfl
def laws_FnReach_st18 (n3 : Int) (all5 : Nat) (ok6 : Bool) (few13 : Int) (known19 : Bool) (within21 : Nat) (told22 : Bool) (b25 : List Int) (all26 : List (List Int)) (x27 : List Int) (y28 : List Int) (first29 : List Int) (end30 : List Int) (within31 : List (List Int)) (some23 : Bool) (i24 : Int) : St := ⟨expand 258 0 [3, 4, 5, 6, 9, 10, 11, 15, 19, 21, 22, 23, 24, 25] [(.ptr 0 0 0 16), (.int .i64 n3), (.sl 1 0 all5), (.bool ok6), (.ptr 2 0 0 16), (.ptr 3 0 0 16), (.int .i64 few13), (.sl 4 0 (List.length first29)), (.ptr 5 0 0 16), (.bool known19), (.sl 6 0 within21), (.bool told22), (.bool some23), (.int .i64 i24)], [(.var 16 (.ri .i64 b25)), (.vec 27 (.rr 16 all26)), (.var 16 (.ri .i64 x27)), (.var 16 (.ri .i64 y28)), (.vec 3 (.ri .i64 first29)), (.var 16 (.ri .i64 end30)), (.vec 27 (.rr 16 within31))], 0, []⟩
def laws_FnReach_o18 (n3 : Int) (all5 : Nat) (ok6 : Bool) (few13 : Int) (known19 : Bool) (within21 : Nat) (told22 : Bool) (b25 : List Int) (all26 : List (List Int)) (x27 : List Int) (y28 : List Int) (first29 : List Int) (end30 : List Int) (within31 : List (List Int)) (x : Bool) : GT := (.out (.exit 0 ⟨expand 258 0 [3, 4, 5, 6, 9, 10, 11, 15, 19, 21, 23, 24] [(.ptr 0 0 0 16), (.int .i64 n3), (.sl 1 0 all5), (.bool ok6), (.ptr 2 0 0 16), (.ptr 3 0 0 16), (.int .i64 few13), (.sl 4 0 (List.length first29)), (.ptr 5 0 0 16), (.bool known19), (.bool told22), (.bool x)], [(.var 16 (.ri .i64 b25)), (.vec 27 (.rr 16 all26)), (.var 16 (.ri .i64 x27)), (.var 16 (.ri .i64 y28)), (.vec 3 (.ri .i64 first29)), (.var 16 (.ri .i64 end30))], 0, []⟩))
def laws_FnReach_ls18 (F : Nat) : LoopS := ⟨258, [3, 4, 5, 6, 9, 10, 11, 15, 19, 21, 22, 23, 24, 25], [], [3, 4, 5, 6, 9, 10, 11, 15, 19, 21, 23, 24], [], [2], [], [], fun vals mem np killed => match vals, mem, np, killed with
  | [(.ptr 0 0 0 16), (.int .i64 n3), (.sl 1 0 all5), (.bool ok6), (.ptr 2 0 0 16), (.ptr 3 0 0 16), (.int .i64 few13), (.sl 4 0 q_first15), (.ptr 5 0 0 16), (.bool known19), (.sl 6 0 within21), (.bool told22), (.bool some23), (.int .i64 i24)], [(.var 16 (.ri .i64 b25)), (.vec 27 (.rr 16 all26)), (.var 16 (.ri .i64 x27)), (.var 16 (.ri .i64 y28)), (.vec 3 (.ri .i64 first29)), (.var 16 (.ri .i64 end30)), (.vec 27 (.rr 16 within31))], 0, [] => .br ((Nat.beq q_first15 (List.length first29)) && (laws_FnReach_l18 F n3 all5 ok6 few13 known19 within21 told22 b25 all26 x27 y28 first29 end30 within31 some23 i24).isSome) (laws_FnReach_o18 n3 all5 ok6 few13 known19 within21 told22 b25 all26 x27 y28 first29 end30 within31 ((laws_FnReach_l18 F n3 all5 ok6 few13 known19 within21 told22 b25 all26 x27 y28 first29 end30 within31 some23 i24).getD default)) .fail
  | _, _, _, _ => .fail⟩
theorem laws_FnReach_step18 (F : Nat) (n3 : Int) (all5 : Nat) (ok6 : Bool) (few13 : Int) (known19 : Bool) (within21 : Nat) (told22 : Bool) (b25 : List Int) (all26 : List (List Int)) (x27 : List Int) (y28 : List Int) (first29 : List Int) (end30 : List Int) (within31 : List (List Int)) (some23 : Bool) (i24 : Int) {R : Type} (k : Out → Option R) : stepS tt (laws_FnReach_tab F) (laws_FnReach_LS0 F) 70 (laws_FnReach_ls18 F) (loopAt 18 (bodyOf Try.f3)) (laws_FnReach_st18 n3 all5 ok6 few13 known19 within21 told22 b25 all26 x27 y28 first29 end30 within31 some23 i24) k = laws_FnReach_s18 F n3 all5 ok6 few13 known19 within21 told22 b25 all26 x27 y28 first29 end30 within31 R (some23, i24) (fun s => k (.norm (laws_FnReach_st18 n3 all5 ok6 few13 known19 within21 told22 b25 all26 x27 y28 first29 end30 within31 s.1 s.2))) (fun x => (laws_FnReach_o18 n3 all5 ok6 few13 known19 within21 told22 b25 all26 x27 y28 first29 end30 within31 x).run k) := by kernel_rfl
theorem laws_FnReach_iter18 (F : Nat) (n3 : Int) (all5 : Nat) (ok6 : Bool) (few13 : Int) (known19 : Bool) (within21 : Nat) (told22 : Bool) (b25 : List Int) (all26 : List (List Int)) (x27 : List Int) (y28 : List Int) (first29 : List Int) (end30 : List Int) (within31 : List (List Int)) {R : Type} (k : Out → Option R) : ∀ (n : Nat) (some23 : Bool) (i24 : Int), iterS tt (laws_FnReach_tab F) (laws_FnReach_LS0 F) 70 (laws_FnReach_ls18 F) (loopAt 18 (bodyOf Try.f3)) n (laws_FnReach_st18 n3 all5 ok6 few13 known19 within21 told22 b25 all26 x27 y28 first29 end30 within31 some23 i24) k = loopC (laws_FnReach_s18 F n3 all5 ok6 few13 known19 within21 told22 b25 all26 x27 y28 first29 end30 within31) n (some23, i24) (fun x => (laws_FnReach_o18 n3 all5 ok6 few13 known19 within21 told22 b25 all26 x27 y28 first29 end30 within31 x).run k)
  | 0, some23, i24 => rfl
  | n + 1, some23, i24 => (iterS_succ tt (laws_FnReach_tab F) (laws_FnReach_LS0 F) 70 (laws_FnReach_ls18 F) (loopAt 18 (bodyOf Try.f3)) n (laws_FnReach_st18 n3 all5 ok6 few13 known19 within21 told22 b25 all26 x27 y28 first29 end30 within31 some23 i24) k).trans ((laws_FnReach_step18 F n3 all5 ok6 few13 known19 within21 told22 b25 all26 x27 y28 first29 end30 within31 some23 i24 (nextK (iterS tt (laws_FnReach_tab F) (laws_FnReach_LS0 F) 70 (laws_FnReach_ls18 F) (loopAt 18 (bodyOf Try.f3)) n) k)).trans (congrArg (fun kn => laws_FnReach_s18 F n3 all5 ok6 few13 known19 within21 told22 b25 all26 x27 y28 first29 end30 within31 R (some23, i24) kn _) (funext (fun ⟨some23, i24⟩ => laws_FnReach_iter18 F n3 all5 ok6 few13 known19 within21 told22 b25 all26 x27 y28 first29 end30 within31 k n some23 i24))))
theorem laws_FnReach_lok18 (F : Nat) : LoopOK Try.prog (loopAt 18 (bodyOf Try.f3)) (laws_FnReach_ls18 F) := by
  refine loopOK_of mixed ttok deep (laws_FnReach_tabok F) (loopsOK_at (laws_FnReach_lsok0 F) 18) (fuel := 70) fun R vals mem np killed k x h => ?_
  simp only [laws_FnReach_ls18] at h
  split at h
  · rename_i n3 all5 ok6 few13 q_first15 known19 within21 told22 some23 i24 b25 all26 x27 y28 first29 end30 within31
    simp only [GT.run] at h
    have hc := (cond_noneL h).1
    replace h := (cond_noneL h).2
    have hg := (and_split hc).1
    replace hc := (and_split hc).2
    obtain rfl := nbeq_nat hg
    refine ⟨F, (laws_FnReach_iter18 F n3 all5 ok6 few13 known19 within21 told22 b25 all26 x27 y28 first29 end30 within31 k F some23 i24).trans ((loopC_use (laws_FnReach_s18_nat F n3 all5 ok6 few13 known19 within21 told22 b25 all26 x27 y28 first29 end30 within31) hc _).trans h)⟩
  · simp only [GT.run] at h
    cases h
noncomputable def laws_FnReach_LS1 (F : Nat) : LT := (18, laws_FnReach_ls18 F) :: laws_FnReach_LS0 F
theorem laws_FnReach_lsok1 (F : Nat) : LoopsOK Try.prog (laws_FnReach_LS1 F) (bodyOf Try.f3) := loopsOK_cons laws_FnReach_keys (laws_FnReach_lok18 F) (laws_FnReach_lsok0 F)
def laws_FnReach_st28 (n3 : Int) (all5 : Nat) (ok6 : Bool) (less11 : Nat) (b13 : List Int) (all14 : List (List Int)) (y15 : List Int) (less16 : List (List Int)) (i12 : Int) : St := ⟨expand 258 0 [3, 4, 5, 6, 10, 26, 28] [(.ptr 0 0 0 16), (.int .i64 n3), (.sl 1 0 all5), (.bool ok6), (.ptr 2 0 0 16), (.sl 3 0 less11), (.int .i64 i12)], [(.var 16 (.ri .i64 b13)), (.vec 27 (.rr 16 all14)), (.var 16 (.ri .i64 y15)), (.vec 27 (.rr 16 less16))], 0, []⟩
def laws_FnReach_o28 (n3 : Int) (all5 : Nat) (ok6 : Bool) (less11 : Nat) (b13 : List Int) (all14 : List (List Int)) (y15 : List Int) (less16 : List (List Int)) (x : Bool) : GT := (.br x (.out (.ret ⟨expand 258 0 [2] [(.bool false)], [], 0, []⟩)) (.out (.exit 2 ⟨expand 258 0 [3, 4, 5, 6] [(.ptr 0 0 0 16), (.int .i64 n3), (.sl 1 0 all5), (.bool ok6)], [(.var 16 (.ri .i64 b13)), (.vec 27 (.rr 16 all14))], 0, []⟩)))
def laws_FnReach_ls28 (F : Nat) : LoopS := ⟨258, [3, 4, 5, 6, 10, 26, 28], [], [3, 4, 5, 6], [], [2], [], [], fun vals mem np killed => match vals, mem, np, killed with
  | [(.ptr 0 0 0 16), (.int .i64 n3), (.sl 1 0 all5), (.bool ok6), (.ptr 2 0 0 16), (.sl 3 0 less11), (.int .i64 i12)], [(.var 16 (.ri .i64 b13)), (.vec 27 (.rr 16 all14)), (.var 16 (.ri .i64 y15)), (.vec 27 (.rr 16 less16))], 0, [] => .br (laws_FnReach_l28 F n3 all5 ok6 less11 b13 all14 y15 less16 i12).isSome (laws_FnReach_o28 n3 all5 ok6 less11 b13 all14 y15 less16 ((laws_FnReach_l28 F n3 all5 ok6 less11 b13 all14 y15 less16 i12).getD default)) .fail
  | _, _, _, _ => .fail⟩
theorem laws_FnReach_step28 (F : Nat) (n3 : Int) (all5 : Nat) (ok6 : Bool) (less11 : Nat) (b13 : List Int) (all14 : List (List Int)) (y15 : List Int) (less16 : List (List Int)) (i12 : Int) {R : Type} (k : Out → Option R) : stepS tt (laws_FnReach_tab F) (laws_FnReach_LS1 F) 70 (laws_FnReach_ls28 F) (loopAt 28 (bodyOf Try.f3)) (laws_FnReach_st28 n3 all5 ok6 less11 b13 all14 y15 less16 i12) k = laws_FnReach_s28 F n3 all5 ok6 less11 b13 all14 y15 less16 R i12 (fun s => k (.norm (laws_FnReach_st28 n3 all5 ok6 less11 b13 all14 y15 less16 s))) (fun x => (laws_FnReach_o28 n3 all5 ok6 less11 b13 all14 y15 less16 x).run k) := by kernel_rfl
theorem laws_FnReach_iter28 (F : Nat) (n3 : Int) (all5 : Nat) (ok6 : Bool) (less11 : Nat) (b13 : List Int) (all14 : List (List Int)) (y15 : List Int) (less16 : List (List Int)) {R : Type} (k : Out → Option R) : ∀ (n : Nat) (i12 : Int), iterS tt (laws_FnReach_tab F) (laws_FnReach_LS1 F) 70 (laws_FnReach_ls28 F) (loopAt 28 (bodyOf Try.f3)) n (laws_FnReach_st28 n3 all5 ok6 less11 b13 all14 y15 less16 i12) k = loopC (laws_FnReach_s28 F n3 all5 ok6 less11 b13 all14 y15 less16) n i12 (fun x => (laws_FnReach_o28 n3 all5 ok6 less11 b13 all14 y15 less16 x).run k)
  | 0, i12 => rfl
  | n + 1, i12 => (iterS_succ tt (laws_FnReach_tab F) (laws_FnReach_LS1 F) 70 (laws_FnReach_ls28 F) (loopAt 28 (bodyOf Try.f3)) n (laws_FnReach_st28 n3 all5 ok6 less11 b13 all14 y15 less16 i12) k).trans ((laws_FnReach_step28 F n3 all5 ok6 less11 b13 all14 y15 less16 i12 (nextK (iterS tt (laws_FnReach_tab F) (laws_FnReach_LS1 F) 70 (laws_FnReach_ls28 F) (loopAt 28 (bodyOf Try.f3)) n) k)).trans (congrArg (fun kn => laws_FnReach_s28 F n3 all5 ok6 less11 b13 all14 y15 less16 R i12 kn _) (funext (fun i12 => laws_FnReach_iter28 F n3 all5 ok6 less11 b13 all14 y15 less16 k n i12))))
theorem laws_FnReach_lok28 (F : Nat) : LoopOK Try.prog (loopAt 28 (bodyOf Try.f3)) (laws_FnReach_ls28 F) := by
  refine loopOK_of mixed ttok deep (laws_FnReach_tabok F) (loopsOK_at (laws_FnReach_lsok1 F) 28) (fuel := 70) fun R vals mem np killed k x h => ?_
  simp only [laws_FnReach_ls28] at h
  split at h
  · rename_i n3 all5 ok6 less11 i12 b13 all14 y15 less16
    simp only [GT.run] at h
    have hc := (cond_noneL h).1
    replace h := (cond_noneL h).2
    refine ⟨F, (laws_FnReach_iter28 F n3 all5 ok6 less11 b13 all14 y15 less16 k F i12).trans ((loopC_use (laws_FnReach_s28_nat F n3 all5 ok6 less11 b13 all14 y15 less16) hc _).trans h)⟩
  · simp only [GT.run] at h
    cases h
noncomputable def laws_FnReach_LS2 (F : Nat) : LT := (28, laws_FnReach_ls28 F) :: laws_FnReach_LS1 F
theorem laws_FnReach_lsok2 (F : Nat) : LoopsOK Try.prog (laws_FnReach_LS2 F) (bodyOf Try.f3) := loopsOK_cons laws_FnReach_keys (laws_FnReach_lok28 F) (laws_FnReach_lsok1 F)
def laws_FnReach_st38 (all1 : Nat) (sum2 : Int) (all4 : List (List Int)) (i3 : Int) : St := ⟨expand 258 0 [5, 29, 31] [(.sl 0 0 all1), (.int .i64 sum2), (.int .i64 i3)], [(.vec 27 (.rr 16 all4))], 0, []⟩
def laws_FnReach_o38 (all1 : Nat) (sum2 : Int) (all4 : List (List Int)) (x : Bool) : GT := (.br x (.out (.ret ⟨expand 258 0 [2] [(.bool false)], [], 0, []⟩)) (.out (.exit 4 ⟨expand 258 0 [] [], [], 0, []⟩)))
def laws_FnReach_ls38 (F : Nat) : LoopS := ⟨258, [5, 29, 31], [], [], [], [2], [], [], fun vals mem np killed => match vals, mem, np, killed with
  | [(.sl 0 0 all1), (.int .i64 sum2), (.int .i64 i3)], [(.vec 27 (.rr 16 all4))], 0, [] => .br (laws_FnReach_l38 F all1 sum2 all4 i3).isSome (laws_FnReach_o38 all1 sum2 all4 ((laws_FnReach_l38 F all1 sum2 all4 i3).getD default)) .fail
  | _, _, _, _ => .fail⟩
theorem laws_FnReach_step38 (F : Nat) (all1 : Nat) (sum2 : Int) (all4 : List (List Int)) (i3 : Int) {R : Type} (k : Out → Option R) : stepS tt (laws_FnReach_tab F) (laws_FnReach_LS2 F) 70 (laws_FnReach_ls38 F) (loopAt 38 (bodyOf Try.f3)) (laws_FnReach_st38 all1 sum2 all4 i3) k = laws_FnReach_s38 F all1 sum2 all4 R i3 (fun s => k (.norm (laws_FnReach_st38 all1 sum2 all4 s))) (fun x => (laws_FnReach_o38 all1 sum2 all4 x).run k) := by kernel_rfl
theorem laws_FnReach_iter38 (F : Nat) (all1 : Nat) (sum2 : Int) (all4 : List (List Int)) {R : Type} (k : Out → Option R) : ∀ (n : Nat) (i3 : Int), iterS tt (laws_FnReach_tab F) (laws_FnReach_LS2 F) 70 (laws_FnReach_ls38 F) (loopAt 38 (bodyOf Try.f3)) n (laws_FnReach_st38 all1 sum2 all4 i3) k = loopC (laws_FnReach_s38 F all1 sum2 all4) n i3 (fun x => (laws_FnReach_o38 all1 sum2 all4 x).run k)
  | 0, i3 => rfl
  | n + 1, i3 => (iterS_succ tt (laws_FnReach_tab F) (laws_FnReach_LS2 F) 70 (laws_FnReach_ls38 F) (loopAt 38 (bodyOf Try.f3)) n (laws_FnReach_st38 all1 sum2 all4 i3) k).trans ((laws_FnReach_step38 F all1 sum2 all4 i3 (nextK (iterS tt (laws_FnReach_tab F) (laws_FnReach_LS2 F) 70 (laws_FnReach_ls38 F) (loopAt 38 (bodyOf Try.f3)) n) k)).trans (congrArg (fun kn => laws_FnReach_s38 F all1 sum2 all4 R i3 kn _) (funext (fun i3 => laws_FnReach_iter38 F all1 sum2 all4 k n i3))))
theorem laws_FnReach_lok38 (F : Nat) : LoopOK Try.prog (loopAt 38 (bodyOf Try.f3)) (laws_FnReach_ls38 F) := by
  refine loopOK_of mixed ttok deep (laws_FnReach_tabok F) (loopsOK_at (laws_FnReach_lsok2 F) 38) (fuel := 70) fun R vals mem np killed k x h => ?_
  simp only [laws_FnReach_ls38] at h
  split at h
  · rename_i all1 sum2 i3 all4
    simp only [GT.run] at h
    have hc := (cond_noneL h).1
    replace h := (cond_noneL h).2
    refine ⟨F, (laws_FnReach_iter38 F all1 sum2 all4 k F i3).trans ((loopC_use (laws_FnReach_s38_nat F all1 sum2 all4) hc _).trans h)⟩
  · simp only [GT.run] at h
    cases h
noncomputable def laws_FnReach_LS3 (F : Nat) : LT := (38, laws_FnReach_ls38 F) :: laws_FnReach_LS2 F
theorem laws_FnReach_lsok3 (F : Nat) : LoopsOK Try.prog (laws_FnReach_LS3 F) (bodyOf Try.f3) := loopsOK_cons laws_FnReach_keys (laws_FnReach_lok38 F) (laws_FnReach_lsok2 F)
theorem laws_FnReach_run (F : Nat) (code0 : List Int) : runS tt (laws_FnReach_tab F) (laws_FnReach_LS3 F) [] [] Try.f3 (bodyOf Try.f3) 70 [(.ri .u8 code0)] [] = laws_FnReach_c _ F code0 (fun r => some ⟨(.bool r), [], []⟩) := by kernel_rfl
def laws_FnReach_ent (F : Nat) : Ent := ⟨[], .quiet, fun args mem => match args, mem with
  | [(.ri .u8 code0)], [] => some ((laws_FnReach_p F code0).isSome, ⟨(.bool ((laws_FnReach_p F code0).getD default)), [], []⟩)
  | _, _ => none⟩
theorem laws_FnReach_fok : FunOK Try.prog 3 := funOK Try.func3 (by kernel_rfl) rfl
theorem laws_FnReach_meets (F : Nat) : Meets Try.prog 3 (laws_FnReach_ent F) := by
  refine meets_of_runS mixed ttok deep (laws_FnReach_tabok F) Try.func3 (body_some rfl) (laws_FnReach_lsok3 F) fun args mem hfit ret h => ?_
  clear hfit
  simp only [laws_FnReach_ent] at h
  split at h
  · rename_i code0
    simp only [Option.some.injEq, Prod.mk.injEq] at h
    obtain ⟨hc, rfl⟩ := h
    exact ⟨[], [], 70, _, (laws_FnReach_run F code0).trans ((laws_FnReach_cp _ F code0 _).trans (bind_use hc _)), rfl, rfl, rfl⟩
  · cases h
end Go.Proofs.Ytabfliifleonaab
