/-
Pure functions and what the code of them does, by program; without conditions.
-/
import Derived.Test.YtabfliifleonaaeQeP4
import Derived.Test.YtabfliifleonaaeQeS3
namespace Go.Proofs.Ytabfliifleonaae
open Go Go.Lv Go.Lv.P Go.Proofs
set_option linter.unusedVariables false
set_option linter.unusedSimpArgs false
set_option maxRecDepth 100000
/-! loop.example/g01194/impl.EqualPairs -/
noncomputable def impl_EqualPairs_tab (F : Nat) : Tab := [(22, (impl_IsBoard_ent F)), (38, (impl_Board_line_ent F)), (39, (impl_in_ent F))]
theorem impl_EqualPairs_tabok (F : Nat) : TabOK Try.prog (impl_EqualPairs_tab F) := (tab_cons (impl_IsBoard_meets F) impl_IsBoard_fok (tab_cons (impl_Board_line_meets F) impl_Board_line_fok (tab_cons (impl_in_meets F) impl_in_fok tab_nil)))
noncomputable def impl_EqualPairs_LS0 (F : Nat) : LT := []
theorem impl_EqualPairs_lsok0 (F : Nat) : LoopsOK Try.prog (impl_EqualPairs_LS0 F) (bodyOf Try.f15) := loopsOK_nil
theorem impl_EqualPairs_keys : keysOK (bodyOf Try.f15) = true := by kernel_rfl
def impl_EqualPairs_st12 (d4 : Int) (t128 : Int) (t159 : Int) (b11 : List Int) (row12 : List Int) (count3 : Int) (t2210 : Int) : St := ⟨expand 45 0 [1, 4, 5, 7, 12, 15, 22] [(.ptr 0 0 0 16), (.int .i64 count3), (.int .i64 d4), (.ptr 1 0 0 4), (.int .i64 t128), (.int .i64 t159), (.int .i64 t2210)], [(.var 16 (.ri .i64 b11)), (.var 4 (.ri .i64 row12))], 0, []⟩
def impl_EqualPairs_o12 (d4 : Int) (t128 : Int) (t159 : Int) (b11 : List Int) (row12 : List Int) (x : Int) : GT := (.out (.exit 4 ⟨expand 45 0 [1, 4, 5, 12, 15] [(.ptr 0 0 0 16), (.int .i64 x), (.int .i64 d4), (.int .i64 t128), (.int .i64 t159)], [(.var 16 (.ri .i64 b11))], 0, []⟩))
def impl_EqualPairs_ls12 (F : Nat) : LoopS := ⟨45, [1, 4, 5, 7, 12, 15, 22], [], [1, 4, 5, 12, 15], [], [2, 3], [], [], fun vals mem np killed => match vals, mem, np, killed with
  | [(.ptr 0 0 0 16), (.int .i64 count3), (.int .i64 d4), (.ptr 1 0 0 4), (.int .i64 t128), (.int .i64 t159), (.int .i64 t2210)], [(.var 16 (.ri .i64 b11)), (.var 4 (.ri .i64 row12))], 0, [] => .br (impl_EqualPairs_l12 F d4 t128 t159 b11 row12 count3 t2210).isSome (impl_EqualPairs_o12 d4 t128 t159 b11 row12 ((impl_EqualPairs_l12 F d4 t128 t159 b11 row12 count3 t2210).getD default)) .fail
  | _, _, _, _ => .fail⟩
theorem impl_EqualPairs_step12 (F : Nat) (d4 : Int) (t128 : Int) (t159 : Int) (b11 : List Int) (row12 : List Int) (count3 : Int) (t2210 : Int) {R : Type} (k : Out → Option R) : stepS tt (impl_EqualPairs_tab F) (impl_EqualPairs_LS0 F) 70 (impl_EqualPairs_ls12 F) (loopAt 12 (bodyOf Try.f15)) (impl_EqualPairs_st12 d4 t128 t159 b11 row12 count3 t2210) k = impl_EqualPairs_s12 F d4 t128 t159 b11 row12 R (count3, t2210) (fun s => k (.norm (impl_EqualPairs_st12 d4 t128 t159 b11 row12 s.1 s.2))) (fun x => (impl_EqualPairs_o12 d4 t128 t159 b11 row12 x).run k) := by kernel_rfl
theorem impl_EqualPairs_iter12 (F : Nat) (d4 : Int) (t128 : Int) (t159 : Int) (b11 : List Int) (row12 : List Int) {R : Type} (k : Out → Option R) : ∀ (n : Nat) (count3 : Int) (t2210 : Int), iterS tt (impl_EqualPairs_tab F) (impl_EqualPairs_LS0 F) 70 (impl_EqualPairs_ls12 F) (loopAt 12 (bodyOf Try.f15)) n (impl_EqualPairs_st12 d4 t128 t159 b11 row12 count3 t2210) k = loopC (impl_EqualPairs_s12 F d4 t128 t159 b11 row12) n (count3, t2210) (fun x => (impl_EqualPairs_o12 d4 t128 t159 b11 row12 x).run k)
  | 0, count3, t2210 => rfl
  | n + 1, count3, t2210 => (iterS_succ tt (impl_EqualPairs_tab F) (impl_EqualPairs_LS0 F) 70 (impl_EqualPairs_ls12 F) (loopAt 12 (bodyOf Try.f15)) n (impl_EqualPairs_st12 d4 t128 t159 b11 row12 count3 t2210) k).trans ((impl_EqualPairs_step12 F d4 t128 t159 b11 row12 count3 t2210 (nextK (iterS tt (impl_EqualPairs_tab F) (impl_EqualPairs_LS0 F) 70 (impl_EqualPairs_ls12 F) (loopAt 12 (bodyOf Try.f15)) n) k)).trans (congrArg (fun kn => impl_EqualPairs_s12 F d4 t128 t159 b11 row12 R (count3, t2210) kn _) (funext (fun ⟨count3, t2210⟩ => impl_EqualPairs_iter12 F d4 t128 t159 b11 row12 k n count3 t2210))))
theorem impl_EqualPairs_lok12 (F : Nat) : LoopOK Try.prog (loopAt 12 (bodyOf Try.f15)) (impl_EqualPairs_ls12 F) := by
  refine loopOK_of mixed ttok deep (impl_EqualPairs_tabok F) (loopsOK_at (impl_EqualPairs_lsok0 F) 12) (fuel := 70) fun R vals mem np killed k x h => ?_
  simp only [impl_EqualPairs_ls12] at h
  split at h
  · rename_i count3 d4 t128 t159 t2210 b11 row12
    simp only [GT.run] at h
    have hc := (cond_noneL h).1
    replace h := (cond_noneL h).2
    refine ⟨F, (impl_EqualPairs_iter12 F d4 t128 t159 b11 row12 k F count3 t2210).trans ((loopC_use (impl_EqualPairs_s12_nat F d4 t128 t159 b11 row12) hc _).trans h)⟩
  · simp only [GT.run] at h
    cases h
noncomputable def impl_EqualPairs_LS1 (F : Nat) : LT := (12, impl_EqualPairs_ls12 F) :: impl_EqualPairs_LS0 F
theorem impl_EqualPairs_lsok1 (F : Nat) : LoopsOK Try.prog (impl_EqualPairs_LS1 F) (bodyOf Try.f15) := loopsOK_cons impl_EqualPairs_keys (impl_EqualPairs_lok12 F) (impl_EqualPairs_lsok0 F)
def impl_EqualPairs_st8 (d4 : Int) (t125 : Int) (b7 : List Int) (count3 : Int) (t156 : Int) : St := ⟨expand 45 0 [1, 4, 5, 12, 15] [(.ptr 0 0 0 16), (.int .i64 count3), (.int .i64 d4), (.int .i64 t125), (.int .i64 t156)], [(.var 16 (.ri .i64 b7))], 0, []⟩
def impl_EqualPairs_o8 (d4 : Int) (t125 : Int) (b7 : List Int) (x : Int) : GT := (.out (.exit 2 ⟨expand 45 0 [1, 4, 12] [(.ptr 0 0 0 16), (.int .i64 x), (.int .i64 t125)], [(.var 16 (.ri .i64 b7))], 0, []⟩))
def impl_EqualPairs_ls8 (F : Nat) : LoopS := ⟨45, [1, 4, 5, 12, 15], [], [1, 4, 12], [], [2, 3], [], [], fun vals mem np killed => match vals, mem, np, killed with
  | [(.ptr 0 0 0 16), (.int .i64 count3), (.int .i64 d4), (.int .i64 t125), (.int .i64 t156)], [(.var 16 (.ri .i64 b7))], 0, [] => .br (impl_EqualPairs_l8 F d4 t125 b7 count3 t156).isSome (impl_EqualPairs_o8 d4 t125 b7 ((impl_EqualPairs_l8 F d4 t125 b7 count3 t156).getD default)) .fail
  | _, _, _, _ => .fail⟩
theorem impl_EqualPairs_step8 (F : Nat) (d4 : Int) (t125 : Int) (b7 : List Int) (count3 : Int) (t156 : Int) {R : Type} (k : Out → Option R) : stepS tt (impl_EqualPairs_tab F) (impl_EqualPairs_LS1 F) 70 (impl_EqualPairs_ls8 F) (loopAt 8 (bodyOf Try.f15)) (impl_EqualPairs_st8 d4 t125 b7 count3 t156) k = impl_EqualPairs_s8 F d4 t125 b7 R (count3, t156) (fun s => k (.norm (impl_EqualPairs_st8 d4 t125 b7 s.1 s.2))) (fun x => (impl_EqualPairs_o8 d4 t125 b7 x).run k) := by kernel_rfl
theorem impl_EqualPairs_iter8 (F : Nat) (d4 : Int) (t125 : Int) (b7 : List Int) {R : Type} (k : Out → Option R) : ∀ (n : Nat) (count3 : Int) (t156 : Int), iterS tt (impl_EqualPairs_tab F) (impl_EqualPairs_LS1 F) 70 (impl_EqualPairs_ls8 F) (loopAt 8 (bodyOf Try.f15)) n (impl_EqualPairs_st8 d4 t125 b7 count3 t156) k = loopC (impl_EqualPairs_s8 F d4 t125 b7) n (count3, t156) (fun x => (impl_EqualPairs_o8 d4 t125 b7 x).run k)
  | 0, count3, t156 => rfl
  | n + 1, count3, t156 => (iterS_succ tt (impl_EqualPairs_tab F) (impl_EqualPairs_LS1 F) 70 (impl_EqualPairs_ls8 F) (loopAt 8 (bodyOf Try.f15)) n (impl_EqualPairs_st8 d4 t125 b7 count3 t156) k).trans ((impl_EqualPairs_step8 F d4 t125 b7 count3 t156 (nextK (iterS tt (impl_EqualPairs_tab F) (impl_EqualPairs_LS1 F) 70 (impl_EqualPairs_ls8 F) (loopAt 8 (bodyOf Try.f15)) n) k)).trans (congrArg (fun kn => impl_EqualPairs_s8 F d4 t125 b7 R (count3, t156) kn _) (funext (fun ⟨count3, t156⟩ => impl_EqualPairs_iter8 F d4 t125 b7 k n count3 t156))))
theorem impl_EqualPairs_lok8 (F : Nat) : LoopOK Try.prog (loopAt 8 (bodyOf Try.f15)) (impl_EqualPairs_ls8 F) := by
  refine loopOK_of mixed ttok deep (impl_EqualPairs_tabok F) (loopsOK_at (impl_EqualPairs_lsok1 F) 8) (fuel := 70) fun R vals mem np killed k x h => ?_
  simp only [impl_EqualPairs_ls8] at h
  split at h
  · rename_i count3 d4 t125 t156 b7
    simp only [GT.run] at h
    have hc := (cond_noneL h).1
    replace h := (cond_noneL h).2
    refine ⟨F, (impl_EqualPairs_iter8 F d4 t125 b7 k F count3 t156).trans ((loopC_use (impl_EqualPairs_s8_nat F d4 t125 b7) hc _).trans h)⟩
  · simp only [GT.run] at h
    cases h
noncomputable def impl_EqualPairs_LS2 (F : Nat) : LT := (8, impl_EqualPairs_ls8 F) :: impl_EqualPairs_LS1 F
theorem impl_EqualPairs_lsok2 (F : Nat) : LoopsOK Try.prog (impl_EqualPairs_LS2 F) (bodyOf Try.f15) := loopsOK_cons impl_EqualPairs_keys (impl_EqualPairs_lok8 F) (impl_EqualPairs_lsok1 F)
def impl_EqualPairs_st5 (b5 : List Int) (count3 : Int) (t124 : Int) : St := ⟨expand 45 0 [1, 4, 12] [(.ptr 0 0 0 16), (.int .i64 count3), (.int .i64 t124)], [(.var 16 (.ri .i64 b5))], 0, []⟩
def impl_EqualPairs_o5 (b5 : List Int) (x : Int) : GT := (.out (.exit 0 ⟨expand 45 0 [4] [(.int .i64 x)], [], 0, []⟩))
def impl_EqualPairs_ls5 (F : Nat) : LoopS := ⟨45, [1, 4, 12], [], [4], [], [2, 3], [], [], fun vals mem np killed => match vals, mem, np, killed with
  | [(.ptr 0 0 0 16), (.int .i64 count3), (.int .i64 t124)], [(.var 16 (.ri .i64 b5))], 0, [] => .br (impl_EqualPairs_l5 F b5 count3 t124).isSome (impl_EqualPairs_o5 b5 ((impl_EqualPairs_l5 F b5 count3 t124).getD default)) .fail
  | _, _, _, _ => .fail⟩
theorem impl_EqualPairs_step5 (F : Nat) (b5 : List Int) (count3 : Int) (t124 : Int) {R : Type} (k : Out → Option R) : stepS tt (impl_EqualPairs_tab F) (impl_EqualPairs_LS2 F) 70 (impl_EqualPairs_ls5 F) (loopAt 5 (bodyOf Try.f15)) (impl_EqualPairs_st5 b5 count3 t124) k = impl_EqualPairs_s5 F b5 R (count3, t124) (fun s => k (.norm (impl_EqualPairs_st5 b5 s.1 s.2))) (fun x => (impl_EqualPairs_o5 b5 x).run k) := by kernel_rfl
theorem impl_EqualPairs_iter5 (F : Nat) (b5 : List Int) {R : Type} (k : Out → Option R) : ∀ (n : Nat) (count3 : Int) (t124 : Int), iterS tt (impl_EqualPairs_tab F) (impl_EqualPairs_LS2 F) 70 (impl_EqualPairs_ls5 F) (loopAt 5 (bodyOf Try.f15)) n (impl_EqualPairs_st5 b5 count3 t124) k = loopC (impl_EqualPairs_s5 F b5) n (count3, t124) (fun x => (impl_EqualPairs_o5 b5 x).run k)
  | 0, count3, t124 => rfl
  | n + 1, count3, t124 => (iterS_succ tt (impl_EqualPairs_tab F) (impl_EqualPairs_LS2 F) 70 (impl_EqualPairs_ls5 F) (loopAt 5 (bodyOf Try.f15)) n (impl_EqualPairs_st5 b5 count3 t124) k).trans ((impl_EqualPairs_step5 F b5 count3 t124 (nextK (iterS tt (impl_EqualPairs_tab F) (impl_EqualPairs_LS2 F) 70 (impl_EqualPairs_ls5 F) (loopAt 5 (bodyOf Try.f15)) n) k)).trans (congrArg (fun kn => impl_EqualPairs_s5 F b5 R (count3, t124) kn _) (funext (fun ⟨count3, t124⟩ => impl_EqualPairs_iter5 F b5 k n count3 t124))))
theorem impl_EqualPairs_lok5 (F : Nat) : LoopOK Try.prog (loopAt 5 (bodyOf Try.f15)) (impl_EqualPairs_ls5 F) := by
  refine loopOK_of mixed ttok deep (impl_EqualPairs_tabok F) (loopsOK_at (impl_EqualPairs_lsok2 F) 5) (fuel := 70) fun R vals mem np killed k x h => ?_
  simp only [impl_EqualPairs_ls5] at h
  split at h
  · rename_i count3 t124 b5
    simp only [GT.run] at h
    have hc := (cond_noneL h).1
    replace h := (cond_noneL h).2
    refine ⟨F, (impl_EqualPairs_iter5 F b5 k F count3 t124).trans ((loopC_use (impl_EqualPairs_s5_nat F b5) hc _).trans h)⟩
  · simp only [GT.run] at h
    cases h
noncomputable def impl_EqualPairs_LS3 (F : Nat) : LT := (5, impl_EqualPairs_ls5 F) :: impl_EqualPairs_LS2 F
theorem impl_EqualPairs_lsok3 (F : Nat) : LoopsOK Try.prog (impl_EqualPairs_LS3 F) (bodyOf Try.f15) := loopsOK_cons impl_EqualPairs_keys (impl_EqualPairs_lok5 F) (impl_EqualPairs_lsok2 F)
theorem impl_EqualPairs_run (F : Nat) (b0 : List Int) : runS tt (impl_EqualPairs_tab F) (impl_EqualPairs_LS3 F) [] [] Try.f15 (bodyOf Try.f15) 70 [(.ints 16 b0)] [] = impl_EqualPairs_c _ F b0 (fun r => some ⟨(.tup [(.int .i64 r.1), (.bool r.2)]), [], []⟩) := by kernel_rfl
def impl_EqualPairs_ent (F : Nat) : Ent := ⟨[], .quiet, fun args mem => match args, mem with
  | [(.ints 16 b0)], [] => some ((impl_EqualPairs_p F b0).isSome, ⟨(.tup [(.int .i64 ((impl_EqualPairs_p F b0).getD default).1), (.bool ((impl_EqualPairs_p F b0).getD default).2)]), [], []⟩)
  | _, _ => none⟩
theorem impl_EqualPairs_fok : FunOK Try.prog 15 := funOK Try.func15 (by kernel_rfl) rfl
theorem impl_EqualPairs_meets (F : Nat) : Meets Try.prog 15 (impl_EqualPairs_ent F) := by
  refine meets_of_runS mixed ttok deep (impl_EqualPairs_tabok F) Try.func15 (body_some rfl) (impl_EqualPairs_lsok3 F) fun args mem hfit ret h => ?_
  clear hfit
  simp only [impl_EqualPairs_ent] at h
  split at h
  · rename_i b0
    simp only [Option.some.injEq, Prod.mk.injEq] at h
    obtain ⟨hc, rfl⟩ := h
    exact ⟨[], [], 70, _, (impl_EqualPairs_run F b0).trans ((impl_EqualPairs_cp _ F b0 _).trans (bind_use hc _)), rfl, rfl, rfl⟩
  · cases h

/-! loop.example/g01194/impl.isDirection -/
noncomputable def impl_isDirection_tab (F : Nat) : Tab := [(39, (impl_in_ent F))]
theorem impl_isDirection_tabok (F : Nat) : TabOK Try.prog (impl_isDirection_tab F) := (tab_cons (impl_in_meets F) impl_in_fok tab_nil)
noncomputable def impl_isDirection_LS0 (F : Nat) : LT := []
theorem impl_isDirection_lsok0 (F : Nat) : LoopsOK Try.prog (impl_isDirection_LS0 F) (bodyOf Try.f40) := loopsOK_nil
theorem impl_isDirection_run (F : Nat) (d0 : Int) : runS tt (impl_isDirection_tab F) (impl_isDirection_LS0 F) [] [] Try.f40 (bodyOf Try.f40) 70 [(.int .i64 d0)] [] = impl_isDirection_c _ d0 (fun r => some ⟨(.bool r), [], []⟩) := by kernel_rfl
def impl_isDirection_ent (F : Nat) : Ent := ⟨[], .quiet, fun args mem => match args, mem with
  | [(.int .i64 d0)], [] => some (true, ⟨(.bool (impl_isDirection_v d0)), [], []⟩)
  | _, _ => none⟩
theorem impl_isDirection_fok : FunOK Try.prog 40 := funOK Try.func40 (by kernel_rfl) rfl
theorem impl_isDirection_meets (F : Nat) : Meets Try.prog 40 (impl_isDirection_ent F) := by
  refine meets_of_runS mixed ttok deep (impl_isDirection_tabok F) Try.func40 (body_some rfl) (impl_isDirection_lsok0 F) fun args mem hfit ret h => ?_
  clear hfit
  simp only [impl_isDirection_ent] at h
  split at h
  · rename_i d0
    simp only [Option.some.injEq, Prod.mk.injEq] at h
    obtain ⟨hc, rfl⟩ := h
    exact ⟨[], [], 70, _, (impl_isDirection_run F d0).trans (impl_isDirection_cv _ d0 _), rfl, rfl, rfl⟩
  · cases h

/-! slices.Clone[[]int,int] -/
def slices_Clone_intint_ent (F : Nat) : Ent := ⟨[], .fresh, fun args mem => match args, mem with
  | [(.ri .i64 xs)], [] => some (fits xs.length 8, ⟨.sl 0 0 xs.length, [.vec 3 (.ri .i64 xs)], []⟩)
  | _, _ => none⟩
theorem slices_Clone_intint_fok : FunOK Try.prog 78 := funOK Try.func78 (by kernel_rfl) rfl
theorem slices_Clone_intint_meets (F : Nat) : Meets Try.prog 78 (slices_Clone_intint_ent F) := by
  have hb : Try.f78.body = some (.seq _ (.seq (.seq (.region _ #[_, _] false) _) _)) := rfl
  refine meets_nil (fuel := 70) (fn := Try.f78) mixed ttok deep tab_nil Try.func78 hb loopsOK_nil rfl rfl rfl rfl rfl rfl Try.underlying60 fun args mem hfit ret hg => ?_
  clear hfit
  simp only [slices_Clone_intint_ent] at hg
  split at hg
  · rename_i xs
    simp only [Option.some.injEq, Prod.mk.injEq] at hg
    obtain ⟨hc, rfl⟩ := hg
    refine ⟨⟨[(.ri .i64 xs), .undef, .z0, .undef, .undef, .undef, .undef, .undef], [], 0, []⟩, fun R k => by kernel_rfl, rfl, Nat.le_of_ble_eq_true rfl, fun b hb => ?_⟩
    cases b with
    | true =>
      obtain rfl : xs = [] := List.eq_nil_of_length_eq_zero (hb rfl)
      exact ⟨[⟨2, 3, (.ri .i64 [])⟩], [], _, (by kernel_rfl : _ = some ⟨.sl 0 0 0, [.vec 3 (.ri .i64 [])], []⟩), rfl, rfl, rfl⟩
    | false =>
      refine ⟨[], [], ⟨.sl 0 0 xs.length, [.vec 3 (.ri .i64 xs)], []⟩, Eq.trans (by kernel_rfl : _ = bif fits xs.length 8 then some (⟨.sl 0 0 xs.length, [.vec 3 (.ri .i64 xs)], []⟩ : Ret) else none) ?_, rfl, rfl, rfl⟩
      rw [hc]; rfl
  · cases hg

/-! loop.example/g01194/impl.tiles$1 -/
noncomputable def impl_tiles_f1_tab (F : Nat) : Tab := []
theorem impl_tiles_f1_tabok (F : Nat) : TabOK Try.prog (impl_tiles_f1_tab F) := tab_nil
noncomputable def impl_tiles_f1_LS0 (F : Nat) : LT := []
theorem impl_tiles_f1_lsok0 (F : Nat) : LoopsOK Try.prog (impl_tiles_f1_LS0 F) (bodyOf Try.f79) := loopsOK_nil
theorem impl_tiles_f1_run (F : Nat) (n0 : Int) : runS tt (impl_tiles_f1_tab F) (impl_tiles_f1_LS0 F) [] [] Try.f79 (bodyOf Try.f79) 70 [(.int .i64 n0)] [] = impl_tiles_f1_c _ n0 (fun r => some ⟨(.bool r), [], []⟩) := by kernel_rfl
def impl_tiles_f1_ent (F : Nat) : Ent := ⟨[], .quiet, fun args mem => match args, mem with
  | [(.int .i64 n0)], [] => some (true, ⟨(.bool (impl_tiles_f1_v n0)), [], []⟩)
  | _, _ => none⟩
theorem impl_tiles_f1_fok : FunOK Try.prog 79 := funOK Try.func79 (by kernel_rfl) rfl
theorem impl_tiles_f1_meets (F : Nat) : Meets Try.prog 79 (impl_tiles_f1_ent F) := by
  refine meets_of_runS mixed ttok deep (impl_tiles_f1_tabok F) Try.func79 (body_some rfl) (impl_tiles_f1_lsok0 F) fun args mem hfit ret h => ?_
  clear hfit
  simp only [impl_tiles_f1_ent] at h
  split at h
  · rename_i n0
    simp only [Option.some.injEq, Prod.mk.injEq] at h
    obtain ⟨hc, rfl⟩ := h
    exact ⟨[], [], 70, _, (impl_tiles_f1_run F n0).trans (impl_tiles_f1_cv _ n0 _), rfl, rfl, rfl⟩
  · cases h

/-! slices.IndexFunc[[]int,int] -/
noncomputable def slices_IndexFunc_intint_impl_tiles_f1_tab (F : Nat) : Tab := [(79, (impl_tiles_f1_ent F))]
theorem slices_IndexFunc_intint_impl_tiles_f1_tabok (F : Nat) : TabOK Try.prog (slices_IndexFunc_intint_impl_tiles_f1_tab F) := (tab_cons (impl_tiles_f1_meets F) impl_tiles_f1_fok tab_nil)
noncomputable def slices_IndexFunc_intint_impl_tiles_f1_LS0 (F : Nat) : LT := []
theorem slices_IndexFunc_intint_impl_tiles_f1_lsok0 (F : Nat) : LoopsOK Try.prog (slices_IndexFunc_intint_impl_tiles_f1_LS0 F) (bodyOf Try.f59) := loopsOK_nil
theorem slices_IndexFunc_intint_impl_tiles_f1_keys : keysOK (bodyOf Try.f59) = true := by kernel_rfl
def slices_IndexFunc_intint_impl_tiles_f1_st2 (s0 : List Int) (t71 : Int) (t82 : Int) : St := ⟨expand 19 0 [0, 1, 7, 8] [(.ri .i64 s0), (.fn 79 [] []), (.int .i64 t71), (.int .i64 t82)], [], 0, []⟩
def slices_IndexFunc_intint_impl_tiles_f1_o2 (s0 : List Int) (t71 : Int) (x : Bool × Int) : GT := (.br x.1 (.out (.ret ⟨expand 19 0 [4] [(.int .i64 x.2)], [], 0, []⟩)) (.out (.exit 0 ⟨expand 19 0 [] [], [], 0, []⟩)))
def slices_IndexFunc_intint_impl_tiles_f1_ls2 (F : Nat) : LoopS := ⟨19, [0, 1, 7, 8], [], [], [], [4], [], [], fun vals mem np killed => match vals, mem, np, killed with
  | [(.ri .i64 s0), (.fn 79 [] []), (.int .i64 t71), (.int .i64 t82)], [], 0, [] => .br (slices_IndexFunc_intint_impl_tiles_f1_l2 F s0 t71 t82).isSome (slices_IndexFunc_intint_impl_tiles_f1_o2 s0 t71 ((slices_IndexFunc_intint_impl_tiles_f1_l2 F s0 t71 t82).getD default)) .fail
  | _, _, _, _ => .fail⟩
theorem slices_IndexFunc_intint_impl_tiles_f1_step2 (F : Nat) (s0 : List Int) (t71 : Int) (t82 : Int) {R : Type} (k : Out → Option R) : stepS tt (slices_IndexFunc_intint_impl_tiles_f1_tab F) (slices_IndexFunc_intint_impl_tiles_f1_LS0 F) 70 (slices_IndexFunc_intint_impl_tiles_f1_ls2 F) (loopAt 2 (bodyOf Try.f59)) (slices_IndexFunc_intint_impl_tiles_f1_st2 s0 t71 t82) k = slices_IndexFunc_intint_impl_tiles_f1_s2 F s0 t71 R t82 (fun s => k (.norm (slices_IndexFunc_intint_impl_tiles_f1_st2 s0 t71 s))) (fun x => (slices_IndexFunc_intint_impl_tiles_f1_o2 s0 t71 x).run k) := by kernel_rfl
theorem slices_IndexFunc_intint_impl_tiles_f1_iter2 (F : Nat) (s0 : List Int) (t71 : Int) {R : Type} (k : Out → Option R) : ∀ (n : Nat) (t82 : Int), iterS tt (slices_IndexFunc_intint_impl_tiles_f1_tab F) (slices_IndexFunc_intint_impl_tiles_f1_LS0 F) 70 (slices_IndexFunc_intint_impl_tiles_f1_ls2 F) (loopAt 2 (bodyOf Try.f59)) n (slices_IndexFunc_intint_impl_tiles_f1_st2 s0 t71 t82) k = loopC (slices_IndexFunc_intint_impl_tiles_f1_s2 F s0 t71) n t82 (fun x => (slices_IndexFunc_intint_impl_tiles_f1_o2 s0 t71 x).run k)
  | 0, t82 => rfl
  | n + 1, t82 => (iterS_succ tt (slices_IndexFunc_intint_impl_tiles_f1_tab F) (slices_IndexFunc_intint_impl_tiles_f1_LS0 F) 70 (slices_IndexFunc_intint_impl_tiles_f1_ls2 F) (loopAt 2 (bodyOf Try.f59)) n (slices_IndexFunc_intint_impl_tiles_f1_st2 s0 t71 t82) k).trans ((slices_IndexFunc_intint_impl_tiles_f1_step2 F s0 t71 t82 (nextK (iterS tt (slices_IndexFunc_intint_impl_tiles_f1_tab F) (slices_IndexFunc_intint_impl_tiles_f1_LS0 F) 70 (slices_IndexFunc_intint_impl_tiles_f1_ls2 F) (loopAt 2 (bodyOf Try.f59)) n) k)).trans (congrArg (fun kn => slices_IndexFunc_intint_impl_tiles_f1_s2 F s0 t71 R t82 kn _) (funext (fun t82 => slices_IndexFunc_intint_impl_tiles_f1_iter2 F s0 t71 k n t82))))
theorem slices_IndexFunc_intint_impl_tiles_f1_lok2 (F : Nat) : LoopOK Try.prog (loopAt 2 (bodyOf Try.f59)) (slices_IndexFunc_intint_impl_tiles_f1_ls2 F) := by
  refine loopOK_of mixed ttok deep (slices_IndexFunc_intint_impl_tiles_f1_tabok F) (loopsOK_at (slices_IndexFunc_intint_impl_tiles_f1_lsok0 F) 2) (fuel := 70) fun R vals mem np killed k x h => ?_
  simp only [slices_IndexFunc_intint_impl_tiles_f1_ls2] at h
  split at h
  · rename_i s0 t71 t82
    simp only [GT.run] at h
    have hc := (cond_noneL h).1
    replace h := (cond_noneL h).2
    refine ⟨F, (slices_IndexFunc_intint_impl_tiles_f1_iter2 F s0 t71 k F t82).trans ((loopC_use (slices_IndexFunc_intint_impl_tiles_f1_s2_nat F s0 t71) hc _).trans h)⟩
  · simp only [GT.run] at h
    cases h
noncomputable def slices_IndexFunc_intint_impl_tiles_f1_LS1 (F : Nat) : LT := (2, slices_IndexFunc_intint_impl_tiles_f1_ls2 F) :: slices_IndexFunc_intint_impl_tiles_f1_LS0 F
theorem slices_IndexFunc_intint_impl_tiles_f1_lsok1 (F : Nat) : LoopsOK Try.prog (slices_IndexFunc_intint_impl_tiles_f1_LS1 F) (bodyOf Try.f59) := loopsOK_cons slices_IndexFunc_intint_impl_tiles_f1_keys (slices_IndexFunc_intint_impl_tiles_f1_lok2 F) (slices_IndexFunc_intint_impl_tiles_f1_lsok0 F)
theorem slices_IndexFunc_intint_impl_tiles_f1_run (F : Nat) (s0 : List Int) : runS tt (slices_IndexFunc_intint_impl_tiles_f1_tab F) (slices_IndexFunc_intint_impl_tiles_f1_LS1 F) [] [] Try.f59 (bodyOf Try.f59) 70 [(.ri .i64 s0), (.fn 79 [] [])] [] = slices_IndexFunc_intint_impl_tiles_f1_c _ F s0 (fun r => some ⟨(.int .i64 r), [], []⟩) := by kernel_rfl
def slices_IndexFunc_intint_impl_tiles_f1_ent (F : Nat) : Ent := ⟨[], .quiet, fun args mem => match args, mem with
  | [(.ri .i64 s0), (.fn 79 [] [])], [] => some ((slices_IndexFunc_intint_impl_tiles_f1_p F s0).isSome, ⟨(.int .i64 ((slices_IndexFunc_intint_impl_tiles_f1_p F s0).getD default)), [], []⟩)
  | _, _ => none⟩
theorem slices_IndexFunc_intint_impl_tiles_f1_fok : FunOK Try.prog 59 := funOK Try.func59 (by kernel_rfl) rfl
theorem slices_IndexFunc_intint_impl_tiles_f1_meets (F : Nat) : Meets Try.prog 59 (slices_IndexFunc_intint_impl_tiles_f1_ent F) := by
  refine meets_of_runS mixed ttok deep (slices_IndexFunc_intint_impl_tiles_f1_tabok F) Try.func59 (body_some rfl) (slices_IndexFunc_intint_impl_tiles_f1_lsok1 F) fun args mem hfit ret h => ?_
  clear hfit
  simp only [slices_IndexFunc_intint_impl_tiles_f1_ent] at h
  split at h
  · rename_i s0
    simp only [Option.some.injEq, Prod.mk.injEq] at h
    obtain ⟨hc, rfl⟩ := h
    exact ⟨[], [], 70, _, (slices_IndexFunc_intint_impl_tiles_f1_run F s0).trans ((slices_IndexFunc_intint_impl_tiles_f1_cp _ F s0 _).trans (bind_use hc _)), rfl, rfl, rfl⟩
  · cases h

/-! slices.DeleteFunc[[]int,int] -/
noncomputable def slices_DeleteFunc_intint_impl_tiles_f1_tab (F : Nat) : Tab := [(59, (slices_IndexFunc_intint_impl_tiles_f1_ent F)), (79, (impl_tiles_f1_ent F))]
theorem slices_DeleteFunc_intint_impl_tiles_f1_tabok (F : Nat) : TabOK Try.prog (slices_DeleteFunc_intint_impl_tiles_f1_tab F) := (tab_cons (slices_IndexFunc_intint_impl_tiles_f1_meets F) slices_IndexFunc_intint_impl_tiles_f1_fok (tab_cons (impl_tiles_f1_meets F) impl_tiles_f1_fok tab_nil))
noncomputable def slices_DeleteFunc_intint_impl_tiles_f1_LS0 (F : Nat) : LT := []
theorem slices_DeleteFunc_intint_impl_tiles_f1_lsok0 (F : Nat) : LoopsOK Try.prog (slices_DeleteFunc_intint_impl_tiles_f1_LS0 F) (bodyOf Try.f77) := loopsOK_nil
theorem slices_DeleteFunc_intint_impl_tiles_f1_keys : keysOK (bodyOf Try.f77) = true := by kernel_rfl
def slices_DeleteFunc_intint_impl_tiles_f1_st5 (s1 : Nat) (i2 : Int) (j3 : Int) (s4 : List Int) : St := ⟨expand 42 0 [0, 1, 5, 6] [(.sl 0 0 s1), (.fn 79 [] []), (.int .i64 i2), (.int .i64 j3)], [(.vec 3 (.ri .i64 s4))], 1, []⟩
def slices_DeleteFunc_intint_impl_tiles_f1_o5 (s1 : Nat) (x : Int × List Int) : GT := (.out (.exit 0 ⟨expand 42 0 [0, 5] [(.sl 0 0 s1), (.int .i64 x.1)], [(.vec 3 (.ri .i64 x.2))], 1, []⟩))
def slices_DeleteFunc_intint_impl_tiles_f1_ls5 (F : Nat) : LoopS := ⟨42, [0, 1, 5, 6], [], [0, 5], [], [4], [], [], fun vals mem np killed => match vals, mem, np, killed with
  | [(.sl 0 0 s1), (.fn 79 [] []), (.int .i64 i2), (.int .i64 j3)], [(.vec 3 (.ri .i64 s4))], 1, [] => .br (slices_DeleteFunc_intint_impl_tiles_f1_l5 F s1 i2 j3 s4).isSome (slices_DeleteFunc_intint_impl_tiles_f1_o5 s1 ((slices_DeleteFunc_intint_impl_tiles_f1_l5 F s1 i2 j3 s4).getD default)) .fail
  | _, _, _, _ => .fail⟩
theorem slices_DeleteFunc_intint_impl_tiles_f1_step5 (F : Nat) (s1 : Nat) (i2 : Int) (j3 : Int) (s4 : List Int) {R : Type} (k : Out → Option R) : stepS tt (slices_DeleteFunc_intint_impl_tiles_f1_tab F) (slices_DeleteFunc_intint_impl_tiles_f1_LS0 F) 70 (slices_DeleteFunc_intint_impl_tiles_f1_ls5 F) (loopAt 5 (bodyOf Try.f77)) (slices_DeleteFunc_intint_impl_tiles_f1_st5 s1 i2 j3 s4) k = slices_DeleteFunc_intint_impl_tiles_f1_s5 F s1 R (i2, j3, s4) (fun s => k (.norm (slices_DeleteFunc_intint_impl_tiles_f1_st5 s1 s.1 s.2.1 s.2.2))) (fun x => (slices_DeleteFunc_intint_impl_tiles_f1_o5 s1 x).run k) := by kernel_rfl
theorem slices_DeleteFunc_intint_impl_tiles_f1_iter5 (F : Nat) (s1 : Nat) {R : Type} (k : Out → Option R) : ∀ (n : Nat) (i2 : Int) (j3 : Int) (s4 : List Int), iterS tt (slices_DeleteFunc_intint_impl_tiles_f1_tab F) (slices_DeleteFunc_intint_impl_tiles_f1_LS0 F) 70 (slices_DeleteFunc_intint_impl_tiles_f1_ls5 F) (loopAt 5 (bodyOf Try.f77)) n (slices_DeleteFunc_intint_impl_tiles_f1_st5 s1 i2 j3 s4) k = loopC (slices_DeleteFunc_intint_impl_tiles_f1_s5 F s1) n (i2, j3, s4) (fun x => (slices_DeleteFunc_intint_impl_tiles_f1_o5 s1 x).run k)
  | 0, i2, j3, s4 => rfl
  | n + 1, i2, j3, s4 => (iterS_succ tt (slices_DeleteFunc_intint_impl_tiles_f1_tab F) (slices_DeleteFunc_intint_impl_tiles_f1_LS0 F) 70 (slices_DeleteFunc_intint_impl_tiles_f1_ls5 F) (loopAt 5 (bodyOf Try.f77)) n (slices_DeleteFunc_intint_impl_tiles_f1_st5 s1 i2 j3 s4) k).trans ((slices_DeleteFunc_intint_impl_tiles_f1_step5 F s1 i2 j3 s4 (nextK (iterS tt (slices_DeleteFunc_intint_impl_tiles_f1_tab F) (slices_DeleteFunc_intint_impl_tiles_f1_LS0 F) 70 (slices_DeleteFunc_intint_impl_tiles_f1_ls5 F) (loopAt 5 (bodyOf Try.f77)) n) k)).trans (congrArg (fun kn => slices_DeleteFunc_intint_impl_tiles_f1_s5 F s1 R (i2, j3, s4) kn _) (funext (fun ⟨i2, j3, s4⟩ => slices_DeleteFunc_intint_impl_tiles_f1_iter5 F s1 k n i2 j3 s4))))
theorem slices_DeleteFunc_intint_impl_tiles_f1_lok5 (F : Nat) : LoopOK Try.prog (loopAt 5 (bodyOf Try.f77)) (slices_DeleteFunc_intint_impl_tiles_f1_ls5 F) := by
  refine loopOK_of mixed ttok deep (slices_DeleteFunc_intint_impl_tiles_f1_tabok F) (loopsOK_at (slices_DeleteFunc_intint_impl_tiles_f1_lsok0 F) 5) (fuel := 70) fun R vals mem np killed k x h => ?_
  simp only [slices_DeleteFunc_intint_impl_tiles_f1_ls5] at h
  split at h
  · rename_i s1 i2 j3 s4
    simp only [GT.run] at h
    have hc := (cond_noneL h).1
    replace h := (cond_noneL h).2
    refine ⟨F, (slices_DeleteFunc_intint_impl_tiles_f1_iter5 F s1 k F i2 j3 s4).trans ((loopC_use (slices_DeleteFunc_intint_impl_tiles_f1_s5_nat F s1) hc _).trans h)⟩
  · simp only [GT.run] at h
    cases h
noncomputable def slices_DeleteFunc_intint_impl_tiles_f1_LS1 (F : Nat) : LT := (5, slices_DeleteFunc_intint_impl_tiles_f1_ls5 F) :: slices_DeleteFunc_intint_impl_tiles_f1_LS0 F
theorem slices_DeleteFunc_intint_impl_tiles_f1_lsok1 (F : Nat) : LoopsOK Try.prog (slices_DeleteFunc_intint_impl_tiles_f1_LS1 F) (bodyOf Try.f77) := loopsOK_cons slices_DeleteFunc_intint_impl_tiles_f1_keys (slices_DeleteFunc_intint_impl_tiles_f1_lok5 F) (slices_DeleteFunc_intint_impl_tiles_f1_lsok0 F)
theorem slices_DeleteFunc_intint_impl_tiles_f1_run (F : Nat) (s2 : List Int) : runS tt (slices_DeleteFunc_intint_impl_tiles_f1_tab F) (slices_DeleteFunc_intint_impl_tiles_f1_LS1 F) [] [] Try.f77 (bodyOf Try.f77) 70 [(.sl 0 0 (List.length s2)), (.fn 79 [] [])] [(.vec 3 (.ri .i64 s2))] = slices_DeleteFunc_intint_impl_tiles_f1_c _ F s2 (fun r => some ⟨(.sl 0 0 r.1), [(.vec 3 (.ri .i64 r.2))], []⟩) := by kernel_rfl
def slices_DeleteFunc_intint_impl_tiles_f1_ent (F : Nat) : Ent := ⟨[true], .loud, fun args mem => match args, mem with
  | [(.sl 0 0 q_s1), (.fn 79 [] [])], [(.vec 3 (.ri .i64 s2))] => some (((Nat.beq q_s1 (List.length s2)) && (slices_DeleteFunc_intint_impl_tiles_f1_p F s2).isSome), ⟨(.sl 0 0 ((slices_DeleteFunc_intint_impl_tiles_f1_p F s2).getD default).1), [(.vec 3 (.ri .i64 ((slices_DeleteFunc_intint_impl_tiles_f1_p F s2).getD default).2))], []⟩)
  | _, _ => none⟩
theorem slices_DeleteFunc_intint_impl_tiles_f1_fok : FunOK Try.prog 77 := funOK Try.func77 (by kernel_rfl) rfl
theorem slices_DeleteFunc_intint_impl_tiles_f1_meets (F : Nat) : Meets Try.prog 77 (slices_DeleteFunc_intint_impl_tiles_f1_ent F) := by
  refine meets_of_runS mixed ttok deep (slices_DeleteFunc_intint_impl_tiles_f1_tabok F) Try.func77 (body_some rfl) (slices_DeleteFunc_intint_impl_tiles_f1_lsok1 F) fun args mem hfit ret h => ?_
  clear hfit
  simp only [slices_DeleteFunc_intint_impl_tiles_f1_ent] at h
  split at h
  · rename_i q_s1 s2
    simp only [Option.some.injEq, Prod.mk.injEq] at h
    obtain ⟨hc, rfl⟩ := h
    have hg := (and_split hc).1
    replace hc := (and_split hc).2
    obtain rfl := nbeq_nat hg
    exact ⟨[], [], 70, _, (slices_DeleteFunc_intint_impl_tiles_f1_run F s2).trans ((slices_DeleteFunc_intint_impl_tiles_f1_cp _ F s2 _).trans (bind_use hc _)), rfl, rfl, rfl⟩
  · cases h

/-! loop.example/g01194/impl.tiles -/
noncomputable def impl_tiles_tab (F : Nat) : Tab := [(78, (slices_Clone_intint_ent F)), (77, (slices_DeleteFunc_intint_impl_tiles_f1_ent F))]
theorem impl_tiles_tabok (F : Nat) : TabOK Try.prog (impl_tiles_tab F) := (tab_cons (slices_Clone_intint_meets F) slices_Clone_intint_fok (tab_cons (slices_DeleteFunc_intint_impl_tiles_f1_meets F) slices_DeleteFunc_intint_impl_tiles_f1_fok tab_nil))
noncomputable def impl_tiles_LS0 (F : Nat) : LT := []
theorem impl_tiles_lsok0 (F : Nat) : LoopsOK Try.prog (impl_tiles_LS0 F) (bodyOf Try.f71) := loopsOK_nil
theorem impl_tiles_run (F : Nat) (row0 : List Int) : runS tt (impl_tiles_tab F) (impl_tiles_LS0 F) [] [] Try.f71 (bodyOf Try.f71) 70 [(.ints 4 row0)] [] = impl_tiles_c _ F row0 (fun r => some ⟨(.sl 0 0 r.1), [(.vec 3 (.ri .i64 r.2))], []⟩) := by kernel_rfl
def impl_tiles_ent (F : Nat) : Ent := ⟨[], .fresh, fun args mem => match args, mem with
  | [(.ints 4 row0)], [] => some ((impl_tiles_p F row0).isSome, ⟨(.sl 0 0 ((impl_tiles_p F row0).getD default).1), [(.vec 3 (.ri .i64 ((impl_tiles_p F row0).getD default).2))], []⟩)
  | _, _ => none⟩
theorem impl_tiles_fok : FunOK Try.prog 71 := funOK Try.func71 (by kernel_rfl) rfl
theorem impl_tiles_meets (F : Nat) : Meets Try.prog 71 (impl_tiles_ent F) := by
  refine meets_of_runS mixed ttok deep (impl_tiles_tabok F) Try.func71 (body_some rfl) (impl_tiles_lsok0 F) fun args mem hfit ret h => ?_
  clear hfit
  simp only [impl_tiles_ent] at h
  split at h
  · rename_i row0
    simp only [Option.some.injEq, Prod.mk.injEq] at h
    obtain ⟨hc, rfl⟩ := h
    exact ⟨[], [], 70, _, (impl_tiles_run F row0).trans ((impl_tiles_cp _ F row0 _).trans (bind_use hc _)), rfl, rfl, rfl⟩
  · cases h

/-! loop.example/g01194/impl.slideRow -/
noncomputable def impl_slideRow_tab (F : Nat) : Tab := [(71, (impl_tiles_ent F)), (51, (impl_worth_ent F))]
theorem impl_slideRow_tabok (F : Nat) : TabOK Try.prog (impl_slideRow_tab F) := (tab_cons (impl_tiles_meets F) impl_tiles_fok (tab_cons (impl_worth_meets F) impl_worth_fok tab_nil))
noncomputable def impl_slideRow_LS0 (F : Nat) : LT := []
theorem impl_slideRow_lsok0 (F : Nat) : LoopsOK Try.prog (impl_slideRow_LS0 F) (bodyOf Try.f61) := loopsOK_nil
theorem impl_slideRow_keys : keysOK (bodyOf Try.f61) = true := by kernel_rfl
def impl_slideRow_st3 (t1415 : Nat) (t1516 : Int) (t1422 : List Int) (score12 : Int) (many13 : Int) (t1617 : Int) (out20 : List Int) (merged21 : List Bool) : St := ⟨expand 63 0 [2, 4, 5, 6, 7, 8, 14, 15, 16] [(.ptr 0 0 0 4), (.ptr 1 0 0 4), (.ptr 2 0 0 4), (.ptr 3 0 0 4), (.int .i64 score12), (.int .i64 many13), (.sl 4 0 t1415), (.int .i64 t1516), (.int .i64 t1617)], [(.var 4 (.ri .i64 [(0 : Int), (0 : Int), (0 : Int), (0 : Int)])), (.var 4 (.rb [false, false, false, false])), (.var 4 (.ri .i64 out20)), (.var 4 (.rb merged21)), (.vec 3 (.ri .i64 t1422))], 0, []⟩
def impl_slideRow_o3 (t1415 : Nat) (t1516 : Int) (t1422 : List Int) (x : Int × List Int × List Bool) : GT := (.out (.exit 0 ⟨expand 63 0 [2, 4, 5, 6, 7] [(.ptr 0 0 0 4), (.ptr 1 0 0 4), (.ptr 2 0 0 4), (.ptr 3 0 0 4), (.int .i64 x.1)], [(.var 4 (.ri .i64 [(0 : Int), (0 : Int), (0 : Int), (0 : Int)])), (.var 4 (.rb [false, false, false, false])), (.var 4 (.ri .i64 x.2.1)), (.var 4 (.rb x.2.2))], 0, []⟩))
def impl_slideRow_ls3 (F : Nat) : LoopS := ⟨63, [2, 4, 5, 6, 7, 8, 14, 15, 16], [], [2, 4, 5, 6, 7], [], [2, 3, 4], [], [], fun vals mem np killed => match vals, mem, np, killed with
  | [(.ptr 0 0 0 4), (.ptr 1 0 0 4), (.ptr 2 0 0 4), (.ptr 3 0 0 4), (.int .i64 score12), (.int .i64 many13), (.sl 4 0 t1415), (.int .i64 t1516), (.int .i64 t1617)], [(.var 4 (.ri .i64 q_t218)), (.var 4 (.rb q_t419)), (.var 4 (.ri .i64 out20)), (.var 4 (.rb merged21)), (.vec 3 (.ri .i64 t1422))], 0, [] => .br ((q_t218 == ([(0 : Int), (0 : Int), (0 : Int), (0 : Int)] : List Int)) && ((q_t419 == ([false, false, false, false] : List Bool)) && (impl_slideRow_l3 F t1415 t1516 t1422 score12 many13 t1617 out20 merged21).isSome)) (impl_slideRow_o3 t1415 t1516 t1422 ((impl_slideRow_l3 F t1415 t1516 t1422 score12 many13 t1617 out20 merged21).getD default)) .fail
  | _, _, _, _ => .fail⟩
theorem impl_slideRow_step3 (F : Nat) (t1415 : Nat) (t1516 : Int) (t1422 : List Int) (score12 : Int) (many13 : Int) (t1617 : Int) (out20 : List Int) (merged21 : List Bool) {R : Type} (k : Out → Option R) : stepS tt (impl_slideRow_tab F) (impl_slideRow_LS0 F) 70 (impl_slideRow_ls3 F) (loopAt 3 (bodyOf Try.f61)) (impl_slideRow_st3 t1415 t1516 t1422 score12 many13 t1617 out20 merged21) k = impl_slideRow_s3 F t1415 t1516 t1422 R (score12, many13, t1617, out20, merged21) (fun s => k (.norm (impl_slideRow_st3 t1415 t1516 t1422 s.1 s.2.1 s.2.2.1 s.2.2.2.1 s.2.2.2.2))) (fun x => (impl_slideRow_o3 t1415 t1516 t1422 x).run k) := by kernel_rfl
theorem impl_slideRow_iter3 (F : Nat) (t1415 : Nat) (t1516 : Int) (t1422 : List Int) {R : Type} (k : Out → Option R) : ∀ (n : Nat) (score12 : Int) (many13 : Int) (t1617 : Int) (out20 : List Int) (merged21 : List Bool), iterS tt (impl_slideRow_tab F) (impl_slideRow_LS0 F) 70 (impl_slideRow_ls3 F) (loopAt 3 (bodyOf Try.f61)) n (impl_slideRow_st3 t1415 t1516 t1422 score12 many13 t1617 out20 merged21) k = loopC (impl_slideRow_s3 F t1415 t1516 t1422) n (score12, many13, t1617, out20, merged21) (fun x => (impl_slideRow_o3 t1415 t1516 t1422 x).run k)
  | 0, score12, many13, t1617, out20, merged21 => rfl
  | n + 1, score12, many13, t1617, out20, merged21 => (iterS_succ tt (impl_slideRow_tab F) (impl_slideRow_LS0 F) 70 (impl_slideRow_ls3 F) (loopAt 3 (bodyOf Try.f61)) n (impl_slideRow_st3 t1415 t1516 t1422 score12 many13 t1617 out20 merged21) k).trans ((impl_slideRow_step3 F t1415 t1516 t1422 score12 many13 t1617 out20 merged21 (nextK (iterS tt (impl_slideRow_tab F) (impl_slideRow_LS0 F) 70 (impl_slideRow_ls3 F) (loopAt 3 (bodyOf Try.f61)) n) k)).trans (congrArg (fun kn => impl_slideRow_s3 F t1415 t1516 t1422 R (score12, many13, t1617, out20, merged21) kn _) (funext (fun ⟨score12, many13, t1617, out20, merged21⟩ => impl_slideRow_iter3 F t1415 t1516 t1422 k n score12 many13 t1617 out20 merged21))))
theorem impl_slideRow_lok3 (F : Nat) : LoopOK Try.prog (loopAt 3 (bodyOf Try.f61)) (impl_slideRow_ls3 F) := by
  refine loopOK_of mixed ttok deep (impl_slideRow_tabok F) (loopsOK_at (impl_slideRow_lsok0 F) 3) (fuel := 70) fun R vals mem np killed k x h => ?_
  simp only [impl_slideRow_ls3] at h
  split at h
  · rename_i score12 many13 t1415 t1516 t1617 q_t218 q_t419 out20 merged21 t1422
    simp only [GT.run] at h
    have hc := (cond_noneL h).1
    replace h := (cond_noneL h).2
    have hg := (and_split hc).1
    replace hc := (and_split hc).2
    obtain rfl := beq_li hg
    have hg := (and_split hc).1
    replace hc := (and_split hc).2
    obtain rfl := beq_lb hg
    refine ⟨F, (impl_slideRow_iter3 F t1415 t1516 t1422 k F score12 many13 t1617 out20 merged21).trans ((loopC_use (impl_slideRow_s3_nat F t1415 t1516 t1422) hc _).trans h)⟩
  · simp only [GT.run] at h
    cases h
noncomputable def impl_slideRow_LS1 (F : Nat) : LT := (3, impl_slideRow_ls3 F) :: impl_slideRow_LS0 F
theorem impl_slideRow_lsok1 (F : Nat) : LoopsOK Try.prog (impl_slideRow_LS1 F) (bodyOf Try.f61) := loopsOK_cons impl_slideRow_keys (impl_slideRow_lok3 F) (impl_slideRow_lsok0 F)
theorem impl_slideRow_run (F : Nat) (row0 : List Int) : runS tt (impl_slideRow_tab F) (impl_slideRow_LS1 F) [] [] Try.f61 (bodyOf Try.f61) 70 [(.ints 4 row0)] [] = impl_slideRow_c _ F row0 (fun r => some ⟨(.tup [(.ints 4 r.1), (.int .i64 r.2.1), (.bools 4 r.2.2)]), [], []⟩) := by kernel_rfl
def impl_slideRow_ent (F : Nat) : Ent := ⟨[], .quiet, fun args mem => match args, mem with
  | [(.ints 4 row0)], [] => some ((impl_slideRow_p F row0).isSome, ⟨(.tup [(.ints 4 ((impl_slideRow_p F row0).getD default).1), (.int .i64 ((impl_slideRow_p F row0).getD default).2.1), (.bools 4 ((impl_slideRow_p F row0).getD default).2.2)]), [], []⟩)
  | _, _ => none⟩
theorem impl_slideRow_fok : FunOK Try.prog 61 := funOK Try.func61 (by kernel_rfl) rfl
theorem impl_slideRow_meets (F : Nat) : Meets Try.prog 61 (impl_slideRow_ent F) := by
  refine meets_of_runS mixed ttok deep (impl_slideRow_tabok F) Try.func61 (body_some rfl) (impl_slideRow_lsok1 F) fun args mem hfit ret h => ?_
  clear hfit
  simp only [impl_slideRow_ent] at h
  split at h
  · rename_i row0
    simp only [Option.some.injEq, Prod.mk.injEq] at h
    obtain ⟨hc, rfl⟩ := h
    exact ⟨[], [], 70, _, (impl_slideRow_run F row0).trans ((impl_slideRow_cp _ F row0 _).trans (bind_use hc _)), rfl, rfl, rfl⟩
  · cases h

/-! (loop.example/g01194/impl.Board).withLine -/
noncomputable def impl_Board_withLine_tab (F : Nat) : Tab := [(60, (impl_lineCell_ent F)), (52, (impl_Board_at_ent F))]
theorem impl_Board_withLine_tabok (F : Nat) : TabOK Try.prog (impl_Board_withLine_tab F) := (tab_cons (impl_lineCell_meets F) impl_lineCell_fok (tab_cons (impl_Board_at_meets F) impl_Board_at_fok tab_nil))
noncomputable def impl_Board_withLine_LS0 (F : Nat) : LT := []
theorem impl_Board_withLine_lsok0 (F : Nat) : LoopsOK Try.prog (impl_Board_withLine_LS0 F) (bodyOf Try.f62) := loopsOK_nil
theorem impl_Board_withLine_run (F : Nat) (b0 : List Int) (direction1 : Int) (i2 : Int) (row3 : List Int) : runS tt (impl_Board_withLine_tab F) (impl_Board_withLine_LS0 F) [] [] Try.f62 (bodyOf Try.f62) 70 [(.ints 16 b0), (.int .i64 direction1), (.int .i64 i2), (.ints 4 row3)] [] = impl_Board_withLine_c _ b0 direction1 i2 row3 (fun r => some ⟨(.ints 16 r), [], []⟩) := by kernel_rfl
def impl_Board_withLine_ent (F : Nat) : Ent := ⟨[], .quiet, fun args mem => match args, mem with
  | [(.ints 16 b0), (.int .i64 direction1), (.int .i64 i2), (.ints 4 row3)], [] => some ((impl_Board_withLine_p b0 direction1 i2 row3).isSome, ⟨(.ints 16 ((impl_Board_withLine_p b0 direction1 i2 row3).getD default)), [], []⟩)
  | _, _ => none⟩
theorem impl_Board_withLine_fok : FunOK Try.prog 62 := funOK Try.func62 (by kernel_rfl) rfl
theorem impl_Board_withLine_meets (F : Nat) : Meets Try.prog 62 (impl_Board_withLine_ent F) := by
  refine meets_of_runS mixed ttok deep (impl_Board_withLine_tabok F) Try.func62 (body_some rfl) (impl_Board_withLine_lsok0 F) fun args mem hfit ret h => ?_
  clear hfit
  simp only [impl_Board_withLine_ent] at h
  split at h
  · rename_i b0 direction1 i2 row3
    simp only [Option.some.injEq, Prod.mk.injEq] at h
    obtain ⟨hc, rfl⟩ := h
    exact ⟨[], [], 70, _, (impl_Board_withLine_run F b0 direction1 i2 row3).trans ((impl_Board_withLine_cp _ b0 direction1 i2 row3 _).trans (bind_use hc _)), rfl, rfl, rfl⟩
  · cases h

/-! (loop.example/g01194/impl.Board).slide -/
noncomputable def impl_Board_slide_tab (F : Nat) : Tab := [(38, (impl_Board_line_ent F)), (61, (impl_slideRow_ent F)), (62, (impl_Board_withLine_ent F))]
theorem impl_Board_slide_tabok (F : Nat) : TabOK Try.prog (impl_Board_slide_tab F) := (tab_cons (impl_Board_line_meets F) impl_Board_line_fok (tab_cons (impl_slideRow_meets F) impl_slideRow_fok (tab_cons (impl_Board_withLine_meets F) impl_Board_withLine_fok tab_nil)))
noncomputable def impl_Board_slide_LS0 (F : Nat) : LT := []
theorem impl_Board_slide_lsok0 (F : Nat) : LoopsOK Try.prog (impl_Board_slide_LS0 F) (bodyOf Try.f41) := loopsOK_nil
theorem impl_Board_slide_keys : keysOK (bodyOf Try.f41) = true := by kernel_rfl
def impl_Board_slide_st8 (direction0 : Int) (score10 : Int) (t1712 : Int) (t3713 : List Bool) (b15 : List Int) (out17 : List Int) (mergers11 : Int) (t3814 : Int) : St := ⟨expand 49 0 [1, 2, 4, 7, 8, 9, 17, 37, 38] [(.int .i64 direction0), (.ptr 0 0 0 16), (.ptr 1 0 0 16), (.ptr 2 0 0 16), (.int .i64 score10), (.int .i64 mergers11), (.int .i64 t1712), (.bools 4 t3713), (.int .i64 t3814)], [(.var 16 (.ri .i64 b15)), (.var 16 (.ri .i64 [(0 : Int), (0 : Int), (0 : Int), (0 : Int), (0 : Int), (0 : Int), (0 : Int), (0 : Int), (0 : Int), (0 : Int), (0 : Int), (0 : Int), (0 : Int), (0 : Int), (0 : Int), (0 : Int)])), (.var 16 (.ri .i64 out17))], 0, []⟩
def impl_Board_slide_o8 (direction0 : Int) (score10 : Int) (t1712 : Int) (t3713 : List Bool) (b15 : List Int) (out17 : List Int) (x : Int) : GT := (.out (.exit 2 ⟨expand 49 0 [1, 2, 4, 7, 8, 9, 17] [(.int .i64 direction0), (.ptr 0 0 0 16), (.ptr 1 0 0 16), (.ptr 2 0 0 16), (.int .i64 score10), (.int .i64 x), (.int .i64 t1712)], [(.var 16 (.ri .i64 b15)), (.var 16 (.ri .i64 [(0 : Int), (0 : Int), (0 : Int), (0 : Int), (0 : Int), (0 : Int), (0 : Int), (0 : Int), (0 : Int), (0 : Int), (0 : Int), (0 : Int), (0 : Int), (0 : Int), (0 : Int), (0 : Int)])), (.var 16 (.ri .i64 out17))], 0, []⟩))
def impl_Board_slide_ls8 (F : Nat) : LoopS := ⟨49, [1, 2, 4, 7, 8, 9, 17, 37, 38], [], [1, 2, 4, 7, 8, 9, 17], [], [4, 5, 6], [], [], fun vals mem np killed => match vals, mem, np, killed with
  | [(.int .i64 direction0), (.ptr 0 0 0 16), (.ptr 1 0 0 16), (.ptr 2 0 0 16), (.int .i64 score10), (.int .i64 mergers11), (.int .i64 t1712), (.bools 4 t3713), (.int .i64 t3814)], [(.var 16 (.ri .i64 b15)), (.var 16 (.ri .i64 q_t416)), (.var 16 (.ri .i64 out17))], 0, [] => .br ((q_t416 == ([(0 : Int), (0 : Int), (0 : Int), (0 : Int), (0 : Int), (0 : Int), (0 : Int), (0 : Int), (0 : Int), (0 : Int), (0 : Int), (0 : Int), (0 : Int), (0 : Int), (0 : Int), (0 : Int)] : List Int)) && (impl_Board_slide_l8 F direction0 score10 t1712 t3713 b15 out17 mergers11 t3814).isSome) (impl_Board_slide_o8 direction0 score10 t1712 t3713 b15 out17 ((impl_Board_slide_l8 F direction0 score10 t1712 t3713 b15 out17 mergers11 t3814).getD default)) .fail
  | _, _, _, _ => .fail⟩
theorem impl_Board_slide_step8 (F : Nat) (direction0 : Int) (score10 : Int) (t1712 : Int) (t3713 : List Bool) (b15 : List Int) (out17 : List Int) (mergers11 : Int) (t3814 : Int) {R : Type} (k : Out → Option R) : stepS tt (impl_Board_slide_tab F) (impl_Board_slide_LS0 F) 70 (impl_Board_slide_ls8 F) (loopAt 8 (bodyOf Try.f41)) (impl_Board_slide_st8 direction0 score10 t1712 t3713 b15 out17 mergers11 t3814) k = impl_Board_slide_s8 F direction0 score10 t1712 t3713 b15 out17 R (mergers11, t3814) (fun s => k (.norm (impl_Board_slide_st8 direction0 score10 t1712 t3713 b15 out17 s.1 s.2))) (fun x => (impl_Board_slide_o8 direction0 score10 t1712 t3713 b15 out17 x).run k) := by kernel_rfl
theorem impl_Board_slide_iter8 (F : Nat) (direction0 : Int) (score10 : Int) (t1712 : Int) (t3713 : List Bool) (b15 : List Int) (out17 : List Int) {R : Type} (k : Out → Option R) : ∀ (n : Nat) (mergers11 : Int) (t3814 : Int), iterS tt (impl_Board_slide_tab F) (impl_Board_slide_LS0 F) 70 (impl_Board_slide_ls8 F) (loopAt 8 (bodyOf Try.f41)) n (impl_Board_slide_st8 direction0 score10 t1712 t3713 b15 out17 mergers11 t3814) k = loopC (impl_Board_slide_s8 F direction0 score10 t1712 t3713 b15 out17) n (mergers11, t3814) (fun x => (impl_Board_slide_o8 direction0 score10 t1712 t3713 b15 out17 x).run k)
  | 0, mergers11, t3814 => rfl
  | n + 1, mergers11, t3814 => (iterS_succ tt (impl_Board_slide_tab F) (impl_Board_slide_LS0 F) 70 (impl_Board_slide_ls8 F) (loopAt 8 (bodyOf Try.f41)) n (impl_Board_slide_st8 direction0 score10 t1712 t3713 b15 out17 mergers11 t3814) k).trans ((impl_Board_slide_step8 F direction0 score10 t1712 t3713 b15 out17 mergers11 t3814 (nextK (iterS tt (impl_Board_slide_tab F) (impl_Board_slide_LS0 F) 70 (impl_Board_slide_ls8 F) (loopAt 8 (bodyOf Try.f41)) n) k)).trans (congrArg (fun kn => impl_Board_slide_s8 F direction0 score10 t1712 t3713 b15 out17 R (mergers11, t3814) kn _) (funext (fun ⟨mergers11, t3814⟩ => impl_Board_slide_iter8 F direction0 score10 t1712 t3713 b15 out17 k n mergers11 t3814))))
theorem impl_Board_slide_lok8 (F : Nat) : LoopOK Try.prog (loopAt 8 (bodyOf Try.f41)) (impl_Board_slide_ls8 F) := by
  refine loopOK_of mixed ttok deep (impl_Board_slide_tabok F) (loopsOK_at (impl_Board_slide_lsok0 F) 8) (fuel := 70) fun R vals mem np killed k x h => ?_
  simp only [impl_Board_slide_ls8] at h
  split at h
  · rename_i direction0 score10 mergers11 t1712 t3713 t3814 b15 q_t416 out17
    simp only [GT.run] at h
    have hc := (cond_noneL h).1
    replace h := (cond_noneL h).2
    have hg := (and_split hc).1
    replace hc := (and_split hc).2
    obtain rfl := beq_li hg
    refine ⟨F, (impl_Board_slide_iter8 F direction0 score10 t1712 t3713 b15 out17 k F mergers11 t3814).trans ((loopC_use (impl_Board_slide_s8_nat F direction0 score10 t1712 t3713 b15 out17) hc _).trans h)⟩
  · simp only [GT.run] at h
    cases h
noncomputable def impl_Board_slide_LS1 (F : Nat) : LT := (8, impl_Board_slide_ls8 F) :: impl_Board_slide_LS0 F
theorem impl_Board_slide_lsok1 (F : Nat) : LoopsOK Try.prog (impl_Board_slide_LS1 F) (bodyOf Try.f41) := loopsOK_cons impl_Board_slide_keys (impl_Board_slide_lok8 F) (impl_Board_slide_lsok0 F)
def impl_Board_slide_st3 (direction0 : Int) (b13 : List Int) (score10 : Int) (mergers11 : Int) (t1712 : Int) (out15 : List Int) : St := ⟨expand 49 0 [1, 2, 4, 7, 8, 9, 17] [(.int .i64 direction0), (.ptr 0 0 0 16), (.ptr 1 0 0 16), (.ptr 2 0 0 16), (.int .i64 score10), (.int .i64 mergers11), (.int .i64 t1712)], [(.var 16 (.ri .i64 b13)), (.var 16 (.ri .i64 [(0 : Int), (0 : Int), (0 : Int), (0 : Int), (0 : Int), (0 : Int), (0 : Int), (0 : Int), (0 : Int), (0 : Int), (0 : Int), (0 : Int), (0 : Int), (0 : Int), (0 : Int), (0 : Int)])), (.var 16 (.ri .i64 out15))], 0, []⟩
def impl_Board_slide_o3 (direction0 : Int) (b13 : List Int) (x : Int × Int × List Int) : GT := (.out (.exit 0 ⟨expand 49 0 [4, 7, 8, 9] [(.ptr 0 0 0 16), (.ptr 1 0 0 16), (.int .i64 x.1), (.int .i64 x.2.1)], [(.var 16 (.ri .i64 [(0 : Int), (0 : Int), (0 : Int), (0 : Int), (0 : Int), (0 : Int), (0 : Int), (0 : Int), (0 : Int), (0 : Int), (0 : Int), (0 : Int), (0 : Int), (0 : Int), (0 : Int), (0 : Int)])), (.var 16 (.ri .i64 x.2.2))], 0, []⟩))
def impl_Board_slide_ls3 (F : Nat) : LoopS := ⟨49, [1, 2, 4, 7, 8, 9, 17], [], [4, 7, 8, 9], [], [4, 5, 6], [], [], fun vals mem np killed => match vals, mem, np, killed with
  | [(.int .i64 direction0), (.ptr 0 0 0 16), (.ptr 1 0 0 16), (.ptr 2 0 0 16), (.int .i64 score10), (.int .i64 mergers11), (.int .i64 t1712)], [(.var 16 (.ri .i64 b13)), (.var 16 (.ri .i64 q_t414)), (.var 16 (.ri .i64 out15))], 0, [] => .br ((q_t414 == ([(0 : Int), (0 : Int), (0 : Int), (0 : Int), (0 : Int), (0 : Int), (0 : Int), (0 : Int), (0 : Int), (0 : Int), (0 : Int), (0 : Int), (0 : Int), (0 : Int), (0 : Int), (0 : Int)] : List Int)) && (impl_Board_slide_l3 F direction0 b13 score10 mergers11 t1712 out15).isSome) (impl_Board_slide_o3 direction0 b13 ((impl_Board_slide_l3 F direction0 b13 score10 mergers11 t1712 out15).getD default)) .fail
  | _, _, _, _ => .fail⟩
theorem impl_Board_slide_step3 (F : Nat) (direction0 : Int) (b13 : List Int) (score10 : Int) (mergers11 : Int) (t1712 : Int) (out15 : List Int) {R : Type} (k : Out → Option R) : stepS tt (impl_Board_slide_tab F) (impl_Board_slide_LS1 F) 70 (impl_Board_slide_ls3 F) (loopAt 3 (bodyOf Try.f41)) (impl_Board_slide_st3 direction0 b13 score10 mergers11 t1712 out15) k = impl_Board_slide_s3 F direction0 b13 R (score10, mergers11, t1712, out15) (fun s => k (.norm (impl_Board_slide_st3 direction0 b13 s.1 s.2.1 s.2.2.1 s.2.2.2))) (fun x => (impl_Board_slide_o3 direction0 b13 x).run k) := by kernel_rfl
theorem impl_Board_slide_iter3 (F : Nat) (direction0 : Int) (b13 : List Int) {R : Type} (k : Out → Option R) : ∀ (n : Nat) (score10 : Int) (mergers11 : Int) (t1712 : Int) (out15 : List Int), iterS tt (impl_Board_slide_tab F) (impl_Board_slide_LS1 F) 70 (impl_Board_slide_ls3 F) (loopAt 3 (bodyOf Try.f41)) n (impl_Board_slide_st3 direction0 b13 score10 mergers11 t1712 out15) k = loopC (impl_Board_slide_s3 F direction0 b13) n (score10, mergers11, t1712, out15) (fun x => (impl_Board_slide_o3 direction0 b13 x).run k)
  | 0, score10, mergers11, t1712, out15 => rfl
  | n + 1, score10, mergers11, t1712, out15 => (iterS_succ tt (impl_Board_slide_tab F) (impl_Board_slide_LS1 F) 70 (impl_Board_slide_ls3 F) (loopAt 3 (bodyOf Try.f41)) n (impl_Board_slide_st3 direction0 b13 score10 mergers11 t1712 out15) k).trans ((impl_Board_slide_step3 F direction0 b13 score10 mergers11 t1712 out15 (nextK (iterS tt (impl_Board_slide_tab F) (impl_Board_slide_LS1 F) 70 (impl_Board_slide_ls3 F) (loopAt 3 (bodyOf Try.f41)) n) k)).trans (congrArg (fun kn => impl_Board_slide_s3 F direction0 b13 R (score10, mergers11, t1712, out15) kn _) (funext (fun ⟨score10, mergers11, t1712, out15⟩ => impl_Board_slide_iter3 F direction0 b13 k n score10 mergers11 t1712 out15))))
theorem impl_Board_slide_lok3 (F : Nat) : LoopOK Try.prog (loopAt 3 (bodyOf Try.f41)) (impl_Board_slide_ls3 F) := by
  refine loopOK_of mixed ttok deep (impl_Board_slide_tabok F) (loopsOK_at (impl_Board_slide_lsok1 F) 3) (fuel := 70) fun R vals mem np killed k x h => ?_
  simp only [impl_Board_slide_ls3] at h
  split at h
  · rename_i direction0 score10 mergers11 t1712 b13 q_t414 out15
    simp only [GT.run] at h
    have hc := (cond_noneL h).1
    replace h := (cond_noneL h).2
    have hg := (and_split hc).1
    replace hc := (and_split hc).2
    obtain rfl := beq_li hg
    refine ⟨F, (impl_Board_slide_iter3 F direction0 b13 k F score10 mergers11 t1712 out15).trans ((loopC_use (impl_Board_slide_s3_nat F direction0 b13) hc _).trans h)⟩
  · simp only [GT.run] at h
    cases h
noncomputable def impl_Board_slide_LS2 (F : Nat) : LT := (3, impl_Board_slide_ls3 F) :: impl_Board_slide_LS1 F
theorem impl_Board_slide_lsok2 (F : Nat) : LoopsOK Try.prog (impl_Board_slide_LS2 F) (bodyOf Try.f41) := loopsOK_cons impl_Board_slide_keys (impl_Board_slide_lok3 F) (impl_Board_slide_lsok1 F)
theorem impl_Board_slide_run (F : Nat) (b0 : List Int) (direction1 : Int) : runS tt (impl_Board_slide_tab F) (impl_Board_slide_LS2 F) [] [] Try.f41 (bodyOf Try.f41) 70 [(.ints 16 b0), (.int .i64 direction1)] [] = impl_Board_slide_c _ F b0 direction1 (fun r => some ⟨(.tup [(.ints 16 r.1), (.int .i64 r.2.1), (.int .i64 r.2.2)]), [], []⟩) := by kernel_rfl
def impl_Board_slide_ent (F : Nat) : Ent := ⟨[], .quiet, fun args mem => match args, mem with
  | [(.ints 16 b0), (.int .i64 direction1)], [] => some ((impl_Board_slide_p F b0 direction1).isSome, ⟨(.tup [(.ints 16 ((impl_Board_slide_p F b0 direction1).getD default).1), (.int .i64 ((impl_Board_slide_p F b0 direction1).getD default).2.1), (.int .i64 ((impl_Board_slide_p F b0 direction1).getD default).2.2)]), [], []⟩)
  | _, _ => none⟩
theorem impl_Board_slide_fok : FunOK Try.prog 41 := funOK Try.func41 (by kernel_rfl) rfl
theorem impl_Board_slide_meets (F : Nat) : Meets Try.prog 41 (impl_Board_slide_ent F) := by
  refine meets_of_runS mixed ttok deep (impl_Board_slide_tabok F) Try.func41 (body_some rfl) (impl_Board_slide_lsok2 F) fun args mem hfit ret h => ?_
  clear hfit
  simp only [impl_Board_slide_ent] at h
  split at h
  · rename_i b0 direction1
    simp only [Option.some.injEq, Prod.mk.injEq] at h
    obtain ⟨hc, rfl⟩ := h
    exact ⟨[], [], 70, _, (impl_Board_slide_run F b0 direction1).trans ((impl_Board_slide_cp _ F b0 direction1 _).trans (bind_use hc _)), rfl, rfl, rfl⟩
  · cases h

/-! loop.example/g01194/impl.SlideBoard -/
noncomputable def impl_SlideBoard_tab (F : Nat) : Tab := [(22, (impl_IsBoard_ent F)), (40, (impl_isDirection_ent F)), (41, (impl_Board_slide_ent F))]
theorem impl_SlideBoard_tabok (F : Nat) : TabOK Try.prog (impl_SlideBoard_tab F) := (tab_cons (impl_IsBoard_meets F) impl_IsBoard_fok (tab_cons (impl_isDirection_meets F) impl_isDirection_fok (tab_cons (impl_Board_slide_meets F) impl_Board_slide_fok tab_nil)))
noncomputable def impl_SlideBoard_LS0 (F : Nat) : LT := []
theorem impl_SlideBoard_lsok0 (F : Nat) : LoopsOK Try.prog (impl_SlideBoard_LS0 F) (bodyOf Try.f16) := loopsOK_nil
theorem impl_SlideBoard_run (F : Nat) (b0 : List Int) (direction1 : Int) : runS tt (impl_SlideBoard_tab F) (impl_SlideBoard_LS0 F) [] [] Try.f16 (bodyOf Try.f16) 70 [(.ints 16 b0), (.int .i64 direction1)] [] = impl_SlideBoard_c _ F b0 direction1 (fun r => some ⟨(.tup [(.ints 16 r.1), (.int .i64 r.2.1), (.bool r.2.2)]), [], []⟩) := by kernel_rfl
def impl_SlideBoard_ent (F : Nat) : Ent := ⟨[], .quiet, fun args mem => match args, mem with
  | [(.ints 16 b0), (.int .i64 direction1)], [] => some ((impl_SlideBoard_p F b0 direction1).isSome, ⟨(.tup [(.ints 16 ((impl_SlideBoard_p F b0 direction1).getD default).1), (.int .i64 ((impl_SlideBoard_p F b0 direction1).getD default).2.1), (.bool ((impl_SlideBoard_p F b0 direction1).getD default).2.2)]), [], []⟩)
  | _, _ => none⟩
theorem impl_SlideBoard_fok : FunOK Try.prog 16 := funOK Try.func16 (by kernel_rfl) rfl
theorem impl_SlideBoard_meets (F : Nat) : Meets Try.prog 16 (impl_SlideBoard_ent F) := by
  refine meets_of_runS mixed ttok deep (impl_SlideBoard_tabok F) Try.func16 (body_some rfl) (impl_SlideBoard_lsok0 F) fun args mem hfit ret h => ?_
  clear hfit
  simp only [impl_SlideBoard_ent] at h
  split at h
  · rename_i b0 direction1
    simp only [Option.some.injEq, Prod.mk.injEq] at h
    obtain ⟨hc, rfl⟩ := h
    exact ⟨[], [], 70, _, (impl_SlideBoard_run F b0 direction1).trans ((impl_SlideBoard_cp _ F b0 direction1 _).trans (bind_use hc _)), rfl, rfl, rfl⟩
  · cases h

/-! loop.example/g01194/impl.SumOf -/
noncomputable def impl_SumOf_tab (F : Nat) : Tab := [(22, (impl_IsBoard_ent F)), (23, (impl_Board_sum_ent F))]
theorem impl_SumOf_tabok (F : Nat) : TabOK Try.prog (impl_SumOf_tab F) := (tab_cons (impl_IsBoard_meets F) impl_IsBoard_fok (tab_cons (impl_Board_sum_meets F) impl_Board_sum_fok tab_nil))
noncomputable def impl_SumOf_LS0 (F : Nat) : LT := []
theorem impl_SumOf_lsok0 (F : Nat) : LoopsOK Try.prog (impl_SumOf_LS0 F) (bodyOf Try.f17) := loopsOK_nil
theorem impl_SumOf_run (F : Nat) (b0 : List Int) : runS tt (impl_SumOf_tab F) (impl_SumOf_LS0 F) [] [] Try.f17 (bodyOf Try.f17) 70 [(.ints 16 b0)] [] = impl_SumOf_c _ F b0 (fun r => some ⟨(.tup [(.int .i64 r.1), (.bool r.2)]), [], []⟩) := by kernel_rfl
def impl_SumOf_ent (F : Nat) : Ent := ⟨[], .quiet, fun args mem => match args, mem with
  | [(.ints 16 b0)], [] => some ((impl_SumOf_p F b0).isSome, ⟨(.tup [(.int .i64 ((impl_SumOf_p F b0).getD default).1), (.bool ((impl_SumOf_p F b0).getD default).2)]), [], []⟩)
  | _, _ => none⟩
theorem impl_SumOf_fok : FunOK Try.prog 17 := funOK Try.func17 (by kernel_rfl) rfl
theorem impl_SumOf_meets (F : Nat) : Meets Try.prog 17 (impl_SumOf_ent F) := by
  refine meets_of_runS mixed ttok deep (impl_SumOf_tabok F) Try.func17 (body_some rfl) (impl_SumOf_lsok0 F) fun args mem hfit ret h => ?_
  clear hfit
  simp only [impl_SumOf_ent] at h
  split at h
  · rename_i b0
    simp only [Option.some.injEq, Prod.mk.injEq] at h
    obtain ⟨hc, rfl⟩ := h
    exact ⟨[], [], 70, _, (impl_SumOf_run F b0).trans ((impl_SumOf_cp _ F b0 _).trans (bind_use hc _)), rfl, rfl, rfl⟩
  · cases h
end Go.Proofs.Ytabfliifleonaae
