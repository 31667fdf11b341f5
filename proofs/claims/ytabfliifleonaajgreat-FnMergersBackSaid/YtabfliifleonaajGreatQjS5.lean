/-
Pure functions and what the code of them does, by program; without conditions.
-/
import Derived.Test.YtabfliifleonaajGreatQjP5
import Derived.Test.YtabfliifleonaajGreatQjS4
namespace Go.Proofs.YtabfliifleonaajGreat
open Go Go.Lv Go.Lv.P Go.Proofs
set_option linter.unusedVariables false
set_option linter.unusedSimpArgs false
set_option maxRecDepth 100000
/-! (loop.example/g01194/impl.Board).merged -/
noncomputable def k39_tab (F : Nat) : Tab := [(23, (k89_ent F)), (24, (k52_ent F)), (25, (k26_ent F)), (26, (k27_ent F)), (36, (k40_ent F)), (37, (k56_ent F)), (39, (slices_Clone_4int4int_ent F)), (38, (k9_ent F)), (41, (k83_ent F)), (42, (k82_ent F)), (44, (k107_ent F)), (43, (k5_ent F))]
theorem k39_tabok (F : Nat) : TabOK Tryz.prog (k39_tab F) := (tab_cons (k89_meets F) k89_fok (tab_cons (k52_meets F) k52_fok (tab_cons (k26_meets F) k26_fok (tab_cons (k27_meets F) k27_fok (tab_cons (k40_meets F) k40_fok (tab_cons (k56_meets F) k56_fok (tab_cons (slices_Clone_4int4int_meets F) slices_Clone_4int4int_fok (tab_cons (k9_meets F) k9_fok (tab_cons (k83_meets F) k83_fok (tab_cons (k82_meets F) k82_fok (tab_cons (k107_meets F) k107_fok (tab_cons (k5_meets F) k5_fok tab_nil))))))))))))
noncomputable def k39_LS0 (F : Nat) : LT := []
theorem k39_lsok0 (F : Nat) : LoopsOK Tryz.prog (k39_LS0 F) (bodyOf Tryz.f18) := loopsOK_nil
theorem k39_keys : keysOK (bodyOf Tryz.f18) = true := by kernel_rfl
def k39_st5 (j4 : Int) (w4 : Bool) (yu : List (List Int)) (ju : List (List Int)) (gu : List (List Int)) (wu : List (List Int)) (b14 : List Int) (vu : List (List Int)) (yv : List (List Int)) (jv : List (List Int)) (gv : List (List Int)) (j38 : Int) (g37 : Int) : St := ⟨expand 124 0 [1, 2, 3, 8, 9, 41, 42] [(.int .i64 j4), (.bool w4), (.ptr 0 0 0 16), (.ptr 1 0 0 4), (.int .i64 j38), (.agg [(.rr 4 yu), (.rr 4 ju), (.rr 4 gu), (.rr 4 wu)]), (.int .i64 g37)], [(.var 16 (.ri .i64 b14)), (.var 4 (.rv [(.rr 4 vu), (.rr 4 yv), (.rr 4 jv), (.rr 4 gv)]))], 0, []⟩
def k39_o5 (j4 : Int) (w4 : Bool) (yu : List (List Int)) (ju : List (List Int)) (gu : List (List Int)) (wu : List (List Int)) (b14 : List Int) (vu : List (List Int)) (yv : List (List Int)) (jv : List (List Int)) (gv : List (List Int)) (x : Int) : GT := (.out (.exit 0 ⟨expand 124 0 [1, 2, 3, 8, 9] [(.int .i64 j4), (.bool w4), (.ptr 0 0 0 16), (.ptr 1 0 0 4), (.int .i64 x)], [(.var 16 (.ri .i64 b14)), (.var 4 (.rv [(.rr 4 vu), (.rr 4 yv), (.rr 4 jv), (.rr 4 gv)]))], 0, []⟩))
def k39_ls5 (F : Nat) : LoopS := ⟨124, [1, 2, 3, 8, 9, 41, 42], [], [1, 2, 3, 8, 9], [], [6, 7], [], [], fun vals mem np killed => match vals, mem, np, killed with
  | [(.int .i64 j4), (.bool w4), (.ptr 0 0 0 16), (.ptr 1 0 0 4), (.int .i64 j38), (.agg [(.rr 4 yu), (.rr 4 ju), (.rr 4 gu), (.rr 4 wu)]), (.int .i64 g37)], [(.var 16 (.ri .i64 b14)), (.var 4 (.rv [(.rr 4 vu), (.rr 4 yv), (.rr 4 jv), (.rr 4 gv)]))], 0, [] => .br (k39_l5 F j4 w4 yu ju gu wu b14 vu yv jv gv j38 g37).isSome (k39_o5 j4 w4 yu ju gu wu b14 vu yv jv gv ((k39_l5 F j4 w4 yu ju gu wu b14 vu yv jv gv j38 g37).getD default)) .fail
  | _, _, _, _ => .fail⟩
theorem k39_step5 (F : Nat) (j4 : Int) (w4 : Bool) (yu : List (List Int)) (ju : List (List Int)) (gu : List (List Int)) (wu : List (List Int)) (b14 : List Int) (vu : List (List Int)) (yv : List (List Int)) (jv : List (List Int)) (gv : List (List Int)) (j38 : Int) (g37 : Int) {R : Type} (k : Out → Option R) : stepS tt (k39_tab F) (k39_LS0 F) 70 (k39_ls5 F) (loopAt 5 (bodyOf Tryz.f18)) (k39_st5 j4 w4 yu ju gu wu b14 vu yv jv gv j38 g37) k = k39_s5 F j4 w4 yu ju gu wu b14 vu yv jv gv R (j38, g37) (fun s => k (.norm (k39_st5 j4 w4 yu ju gu wu b14 vu yv jv gv s.1 s.2))) (fun x => (k39_o5 j4 w4 yu ju gu wu b14 vu yv jv gv x).run k) := by kernel_rfl
theorem k39_iter5 (F : Nat) (j4 : Int) (w4 : Bool) (yu : List (List Int)) (ju : List (List Int)) (gu : List (List Int)) (wu : List (List Int)) (b14 : List Int) (vu : List (List Int)) (yv : List (List Int)) (jv : List (List Int)) (gv : List (List Int)) {R : Type} (k : Out → Option R) : ∀ (n : Nat) (j38 : Int) (g37 : Int), iterS tt (k39_tab F) (k39_LS0 F) 70 (k39_ls5 F) (loopAt 5 (bodyOf Tryz.f18)) n (k39_st5 j4 w4 yu ju gu wu b14 vu yv jv gv j38 g37) k = loopC (k39_s5 F j4 w4 yu ju gu wu b14 vu yv jv gv) n (j38, g37) (fun x => (k39_o5 j4 w4 yu ju gu wu b14 vu yv jv gv x).run k)
  | 0, j38, g37 => rfl
  | n + 1, j38, g37 => (iterS_succ tt (k39_tab F) (k39_LS0 F) 70 (k39_ls5 F) (loopAt 5 (bodyOf Tryz.f18)) n (k39_st5 j4 w4 yu ju gu wu b14 vu yv jv gv j38 g37) k).trans ((k39_step5 F j4 w4 yu ju gu wu b14 vu yv jv gv j38 g37 (nextK (iterS tt (k39_tab F) (k39_LS0 F) 70 (k39_ls5 F) (loopAt 5 (bodyOf Tryz.f18)) n) k)).trans (congrArg (fun kn => k39_s5 F j4 w4 yu ju gu wu b14 vu yv jv gv R (j38, g37) kn _) (funext (fun ⟨j38, g37⟩ => k39_iter5 F j4 w4 yu ju gu wu b14 vu yv jv gv k n j38 g37))))
theorem k39_lok5 (F : Nat) : LoopOK Tryz.prog (loopAt 5 (bodyOf Tryz.f18)) (k39_ls5 F) := by
  refine loopOK_of mixed ttok deep (k39_tabok F) (loopsOK_at (k39_lsok0 F) 5) (fuel := 70) fun R vals mem np killed k x h => ?_
  simp only [k39_ls5] at h
  split at h
  · rename_i j4 w4 j38 yu ju gu wu g37 b14 vu yv jv gv
    simp only [GT.run] at h
    have hc := (cond_noneL h).1
    replace h := (cond_noneL h).2
    refine ⟨F, (k39_iter5 F j4 w4 yu ju gu wu b14 vu yv jv gv k F j38 g37).trans ((loopC_use (k39_s5_nat F j4 w4 yu ju gu wu b14 vu yv jv gv) hc _).trans h)⟩
  · simp only [GT.run] at h
    cases h
noncomputable def k39_LS1 (F : Nat) : LT := (5, k39_ls5 F) :: k39_LS0 F
theorem k39_lsok1 (F : Nat) : LoopsOK Tryz.prog (k39_LS1 F) (bodyOf Tryz.f18) := loopsOK_cons k39_keys (k39_lok5 F) (k39_lsok0 F)
def k39_st22 (j4 : Int) (w4 : Bool) (j7 : Int) (g7 : Bool) (i10 : Int) (jc : List (List Int)) (k12 : Int) (ve : List (List Int)) (jf : List (List Int)) (wv : List (List Int)) (vv : List (List Int)) (yw : Int) (jw : Int) (jo : List (List Int)) (gw : Int) (b23 : List Int) (ww : List (List Int × Bool)) (g38 : Int) (w37 : Int) : St := ⟨expand 124 0 [1, 2, 3, 9, 12, 13, 14, 15, 17, 18, 58, 59, 81, 84, 85, 86] [(.int .i64 j4), (.bool w4), (.ptr 0 0 0 16), (.int .i64 j7), (.bool g7), (.ptr 1 0 0 1), (.int .i64 i10), (.rr 4 jc), (.int .i64 k12), (.int .i64 g38), (.agg [(.rr 4 ve), (.rr 4 jf), (.rr 4 wv), (.rr 4 vv)]), (.int .i64 yw), (.int .i64 jw), (.rr 4 jo), (.int .i64 gw), (.int .i64 w37)], [(.var 16 (.ri .i64 b23)), (.var 1 (.rv [(.map 2)])), (.map 2 (.fl ww))], 0, []⟩
def k39_o22 (j4 : Int) (w4 : Bool) (j7 : Int) (g7 : Bool) (i10 : Int) (jc : List (List Int)) (k12 : Int) (ve : List (List Int)) (jf : List (List Int)) (wv : List (List Int)) (vv : List (List Int)) (yw : Int) (jw : Int) (jo : List (List Int)) (gw : Int) (b23 : List Int) (ww : List (List Int × Bool)) (x : Int) : GT := (.out (.exit 6 ⟨expand 124 0 [1, 2, 3, 9, 12, 13, 14, 15, 17, 18, 58, 59, 81] [(.int .i64 j4), (.bool w4), (.ptr 0 0 0 16), (.int .i64 j7), (.bool g7), (.ptr 1 0 0 1), (.int .i64 i10), (.rr 4 jc), (.int .i64 k12), (.int .i64 x), (.agg [(.rr 4 ve), (.rr 4 jf), (.rr 4 wv), (.rr 4 vv)]), (.int .i64 yw), (.int .i64 jw)], [(.var 16 (.ri .i64 b23)), (.var 1 (.rv [(.map 2)])), (.map 2 (.fl ww))], 0, []⟩))
def k39_ls22 (F : Nat) : LoopS := ⟨124, [1, 2, 3, 9, 12, 13, 14, 15, 17, 18, 58, 59, 81, 84, 85, 86], [], [1, 2, 3, 9, 12, 13, 14, 15, 17, 18, 58, 59, 81], [], [6, 7], [], [], fun vals mem np killed => match vals, mem, np, killed with
  | [(.int .i64 j4), (.bool w4), (.ptr 0 0 0 16), (.int .i64 j7), (.bool g7), (.ptr 1 0 0 1), (.int .i64 i10), (.rr 4 jc), (.int .i64 k12), (.int .i64 g38), (.agg [(.rr 4 ve), (.rr 4 jf), (.rr 4 wv), (.rr 4 vv)]), (.int .i64 yw), (.int .i64 jw), (.rr 4 jo), (.int .i64 gw), (.int .i64 w37)], [(.var 16 (.ri .i64 b23)), (.var 1 (.rv [(.map 2)])), (.map 2 (.fl ww))], 0, [] => .br (k39_l22 F j4 w4 j7 g7 i10 jc k12 ve jf wv vv yw jw jo gw b23 ww g38 w37).isSome (k39_o22 j4 w4 j7 g7 i10 jc k12 ve jf wv vv yw jw jo gw b23 ww ((k39_l22 F j4 w4 j7 g7 i10 jc k12 ve jf wv vv yw jw jo gw b23 ww g38 w37).getD default)) .fail
  | _, _, _, _ => .fail⟩
theorem k39_step22 (F : Nat) (j4 : Int) (w4 : Bool) (j7 : Int) (g7 : Bool) (i10 : Int) (jc : List (List Int)) (k12 : Int) (ve : List (List Int)) (jf : List (List Int)) (wv : List (List Int)) (vv : List (List Int)) (yw : Int) (jw : Int) (jo : List (List Int)) (gw : Int) (b23 : List Int) (ww : List (List Int × Bool)) (g38 : Int) (w37 : Int) {R : Type} (k : Out → Option R) : stepS tt (k39_tab F) (k39_LS1 F) 70 (k39_ls22 F) (loopAt 22 (bodyOf Tryz.f18)) (k39_st22 j4 w4 j7 g7 i10 jc k12 ve jf wv vv yw jw jo gw b23 ww g38 w37) k = k39_s22 F j4 w4 j7 g7 i10 jc k12 ve jf wv vv yw jw jo gw b23 ww R (g38, w37) (fun s => k (.norm (k39_st22 j4 w4 j7 g7 i10 jc k12 ve jf wv vv yw jw jo gw b23 ww s.1 s.2))) (fun x => (k39_o22 j4 w4 j7 g7 i10 jc k12 ve jf wv vv yw jw jo gw b23 ww x).run k) := by kernel_rfl
theorem k39_iter22 (F : Nat) (j4 : Int) (w4 : Bool) (j7 : Int) (g7 : Bool) (i10 : Int) (jc : List (List Int)) (k12 : Int) (ve : List (List Int)) (jf : List (List Int)) (wv : List (List Int)) (vv : List (List Int)) (yw : Int) (jw : Int) (jo : List (List Int)) (gw : Int) (b23 : List Int) (ww : List (List Int × Bool)) {R : Type} (k : Out → Option R) : ∀ (n : Nat) (g38 : Int) (w37 : Int), iterS tt (k39_tab F) (k39_LS1 F) 70 (k39_ls22 F) (loopAt 22 (bodyOf Tryz.f18)) n (k39_st22 j4 w4 j7 g7 i10 jc k12 ve jf wv vv yw jw jo gw b23 ww g38 w37) k = loopC (k39_s22 F j4 w4 j7 g7 i10 jc k12 ve jf wv vv yw jw jo gw b23 ww) n (g38, w37) (fun x => (k39_o22 j4 w4 j7 g7 i10 jc k12 ve jf wv vv yw jw jo gw b23 ww x).run k)
  | 0, g38, w37 => rfl
  | n + 1, g38, w37 => (iterS_succ tt (k39_tab F) (k39_LS1 F) 70 (k39_ls22 F) (loopAt 22 (bodyOf Tryz.f18)) n (k39_st22 j4 w4 j7 g7 i10 jc k12 ve jf wv vv yw jw jo gw b23 ww g38 w37) k).trans ((k39_step22 F j4 w4 j7 g7 i10 jc k12 ve jf wv vv yw jw jo gw b23 ww g38 w37 (nextK (iterS tt (k39_tab F) (k39_LS1 F) 70 (k39_ls22 F) (loopAt 22 (bodyOf Tryz.f18)) n) k)).trans (congrArg (fun kn => k39_s22 F j4 w4 j7 g7 i10 jc k12 ve jf wv vv yw jw jo gw b23 ww R (g38, w37) kn _) (funext (fun ⟨g38, w37⟩ => k39_iter22 F j4 w4 j7 g7 i10 jc k12 ve jf wv vv yw jw jo gw b23 ww k n g38 w37))))
theorem k39_lok22 (F : Nat) : LoopOK Tryz.prog (loopAt 22 (bodyOf Tryz.f18)) (k39_ls22 F) := by
  refine loopOK_of mixed ttok deep (k39_tabok F) (loopsOK_at (k39_lsok1 F) 22) (fuel := 70) fun R vals mem np killed k x h => ?_
  simp only [k39_ls22] at h
  split at h
  · rename_i j4 w4 j7 g7 i10 jc k12 g38 ve jf wv vv yw jw jo gw w37 b23 ww
    simp only [GT.run] at h
    have hc := (cond_noneL h).1
    replace h := (cond_noneL h).2
    refine ⟨F, (k39_iter22 F j4 w4 j7 g7 i10 jc k12 ve jf wv vv yw jw jo gw b23 ww k F g38 w37).trans ((loopC_use (k39_s22_nat F j4 w4 j7 g7 i10 jc k12 ve jf wv vv yw jw jo gw b23 ww) hc _).trans h)⟩
  · simp only [GT.run] at h
    cases h
noncomputable def k39_LS2 (F : Nat) : LT := (22, k39_ls22 F) :: k39_LS1 F
theorem k39_lsok2 (F : Nat) : LoopsOK Tryz.prog (k39_LS2 F) (bodyOf Tryz.f18) := loopsOK_cons k39_keys (k39_lok22 F) (k39_lsok1 F)
def k39_st18 (j4 : Int) (w4 : Bool) (j7 : Int) (g7 : Bool) (i10 : Int) (jc : List (List Int)) (gc : List (List Int)) (wc : List (List Int)) (ve : List (List Int)) (jf : List (List Int)) (wo : Int) (b18 : List Int) (jl : Int) (vw : List (List Int × Bool)) : St := ⟨expand 124 0 [1, 2, 3, 9, 12, 13, 14, 15, 58, 59, 81] [(.int .i64 j4), (.bool w4), (.ptr 0 0 0 16), (.int .i64 j7), (.bool g7), (.ptr 1 0 0 1), (.int .i64 i10), (.rr 4 jc), (.agg [(.rr 4 gc), (.rr 4 wc), (.rr 4 ve), (.rr 4 jf)]), (.int .i64 wo), (.int .i64 jl)], [(.var 16 (.ri .i64 b18)), (.var 1 (.rv [(.map 2)])), (.map 2 (.fl vw))], 0, []⟩
def k39_o18 (j4 : Int) (w4 : Bool) (j7 : Int) (g7 : Bool) (i10 : Int) (jc : List (List Int)) (gc : List (List Int)) (wc : List (List Int)) (ve : List (List Int)) (jf : List (List Int)) (wo : Int) (b18 : List Int) (x : List (List Int × Bool)) : GT := (.out (.exit 4 ⟨expand 124 0 [1, 2, 3, 9, 12, 13, 58, 59] [(.int .i64 j4), (.bool w4), (.ptr 0 0 0 16), (.int .i64 j7), (.bool g7), (.ptr 1 0 0 1), (.agg [(.rr 4 gc), (.rr 4 wc), (.rr 4 ve), (.rr 4 jf)]), (.int .i64 wo)], [(.var 16 (.ri .i64 b18)), (.var 1 (.rv [(.map 2)])), (.map 2 (.fl x))], 0, []⟩))
def k39_ls18 (F : Nat) : LoopS := ⟨124, [1, 2, 3, 9, 12, 13, 14, 15, 58, 59, 81], [⟨15, 0, (.tup [])⟩], [1, 2, 3, 9, 12, 13, 58, 59], [], [6, 7], [], [], fun vals mem np killed => match vals, mem, np, killed with
  | [(.int .i64 j4), (.bool w4), (.ptr 0 0 0 16), (.int .i64 j7), (.bool g7), (.ptr 1 0 0 1), (.int .i64 i10), (.rr 4 jc), (.agg [(.rr 4 gc), (.rr 4 wc), (.rr 4 ve), (.rr 4 jf)]), (.int .i64 wo), (.int .i64 jl)], [(.var 16 (.ri .i64 b18)), (.var 1 (.rv [(.map 2)])), (.map 2 (.fl vw))], 0, [] => .br (k39_l18 F j4 w4 j7 g7 i10 jc gc wc ve jf wo b18 jl vw).isSome (k39_o18 j4 w4 j7 g7 i10 jc gc wc ve jf wo b18 ((k39_l18 F j4 w4 j7 g7 i10 jc gc wc ve jf wo b18 jl vw).getD default)) .fail
  | _, _, _, _ => .fail⟩
theorem k39_step18 (F : Nat) (j4 : Int) (w4 : Bool) (j7 : Int) (g7 : Bool) (i10 : Int) (jc : List (List Int)) (gc : List (List Int)) (wc : List (List Int)) (ve : List (List Int)) (jf : List (List Int)) (wo : Int) (b18 : List Int) (jl : Int) (vw : List (List Int × Bool)) {R : Type} (k : Out → Option R) : stepS tt (k39_tab F) (k39_LS2 F) 70 (k39_ls18 F) (loopAt 18 (bodyOf Tryz.f18)) (k39_st18 j4 w4 j7 g7 i10 jc gc wc ve jf wo b18 jl vw) k = k39_s18 F j4 w4 j7 g7 i10 jc gc wc ve jf wo b18 R (jl, vw) (fun s => k (.norm (k39_st18 j4 w4 j7 g7 i10 jc gc wc ve jf wo b18 s.1 s.2))) (fun x => (k39_o18 j4 w4 j7 g7 i10 jc gc wc ve jf wo b18 x).run k) := by kernel_rfl
theorem k39_iter18 (F : Nat) (j4 : Int) (w4 : Bool) (j7 : Int) (g7 : Bool) (i10 : Int) (jc : List (List Int)) (gc : List (List Int)) (wc : List (List Int)) (ve : List (List Int)) (jf : List (List Int)) (wo : Int) (b18 : List Int) {R : Type} (k : Out → Option R) : ∀ (n : Nat) (jl : Int) (vw : List (List Int × Bool)), iterS tt (k39_tab F) (k39_LS2 F) 70 (k39_ls18 F) (loopAt 18 (bodyOf Tryz.f18)) n (k39_st18 j4 w4 j7 g7 i10 jc gc wc ve jf wo b18 jl vw) k = loopC (k39_s18 F j4 w4 j7 g7 i10 jc gc wc ve jf wo b18) n (jl, vw) (fun x => (k39_o18 j4 w4 j7 g7 i10 jc gc wc ve jf wo b18 x).run k)
  | 0, jl, vw => rfl
  | n + 1, jl, vw => (iterS_succ tt (k39_tab F) (k39_LS2 F) 70 (k39_ls18 F) (loopAt 18 (bodyOf Tryz.f18)) n (k39_st18 j4 w4 j7 g7 i10 jc gc wc ve jf wo b18 jl vw) k).trans ((k39_step18 F j4 w4 j7 g7 i10 jc gc wc ve jf wo b18 jl vw (nextK (iterS tt (k39_tab F) (k39_LS2 F) 70 (k39_ls18 F) (loopAt 18 (bodyOf Tryz.f18)) n) k)).trans (congrArg (fun kn => k39_s18 F j4 w4 j7 g7 i10 jc gc wc ve jf wo b18 R (jl, vw) kn _) (funext (fun ⟨jl, vw⟩ => k39_iter18 F j4 w4 j7 g7 i10 jc gc wc ve jf wo b18 k n jl vw))))
theorem k39_lok18 (F : Nat) : LoopOK Tryz.prog (loopAt 18 (bodyOf Tryz.f18)) (k39_ls18 F) := by
  refine loopOK_of mixed ttok deep (k39_tabok F) (loopsOK_at (k39_lsok2 F) 18) (fuel := 70) fun R vals mem np killed k x h => ?_
  simp only [k39_ls18] at h
  split at h
  · rename_i j4 w4 j7 g7 i10 jc gc wc ve jf wo jl b18 vw
    simp only [GT.run] at h
    have hc := (cond_noneL h).1
    replace h := (cond_noneL h).2
    refine ⟨F, (k39_iter18 F j4 w4 j7 g7 i10 jc gc wc ve jf wo b18 k F jl vw).trans ((loopC_use (k39_s18_nat F j4 w4 j7 g7 i10 jc gc wc ve jf wo b18) hc _).trans h)⟩
  · simp only [GT.run] at h
    cases h
noncomputable def k39_LS3 (F : Nat) : LT := (18, k39_ls18 F) :: k39_LS2 F
theorem k39_lsok3 (F : Nat) : LoopsOK Tryz.prog (k39_LS3 F) (bodyOf Tryz.f18) := loopsOK_cons k39_keys (k39_lok18 F) (k39_lsok2 F)
def k39_st12 (j4 : Int) (w4 : Bool) (j7 : Int) (g7 : Bool) (gl : List (List Int)) (vl : List (List Int)) (gc : List (List Int)) (wc : List (List Int)) (b15 : List Int) (wj : Int) (w38 : List (List Int × Bool)) : St := ⟨expand 124 0 [1, 2, 3, 9, 12, 13, 58, 59] [(.int .i64 j4), (.bool w4), (.ptr 0 0 0 16), (.int .i64 j7), (.bool g7), (.ptr 1 0 0 1), (.agg [(.rr 4 gl), (.rr 4 vl), (.rr 4 gc), (.rr 4 wc)]), (.int .i64 wj)], [(.var 16 (.ri .i64 b15)), (.var 1 (.rv [(.map 2)])), (.map 2 (.fl w38))], 0, []⟩
def k39_o12 (j4 : Int) (w4 : Bool) (j7 : Int) (g7 : Bool) (gl : List (List Int)) (vl : List (List Int)) (gc : List (List Int)) (wc : List (List Int)) (b15 : List Int) (x : List (List Int × Bool)) : GT := (.out (.exit 2 ⟨expand 124 0 [13] [(.ptr 0 0 0 1)], [(.var 1 (.rv [(.map 1)])), (.map 2 (.fl x))], 0, []⟩))
def k39_ls12 (F : Nat) : LoopS := ⟨124, [1, 2, 3, 9, 12, 13, 58, 59], [], [13], [], [6, 7], [], [], fun vals mem np killed => match vals, mem, np, killed with
  | [(.int .i64 j4), (.bool w4), (.ptr 0 0 0 16), (.int .i64 j7), (.bool g7), (.ptr 1 0 0 1), (.agg [(.rr 4 gl), (.rr 4 vl), (.rr 4 gc), (.rr 4 wc)]), (.int .i64 wj)], [(.var 16 (.ri .i64 b15)), (.var 1 (.rv [(.map 2)])), (.map 2 (.fl w38))], 0, [] => .br (k39_l12 F j4 w4 j7 g7 gl vl gc wc b15 wj w38).isSome (k39_o12 j4 w4 j7 g7 gl vl gc wc b15 ((k39_l12 F j4 w4 j7 g7 gl vl gc wc b15 wj w38).getD default)) .fail
  | _, _, _, _ => .fail⟩
theorem k39_step12 (F : Nat) (j4 : Int) (w4 : Bool) (j7 : Int) (g7 : Bool) (gl : List (List Int)) (vl : List (List Int)) (gc : List (List Int)) (wc : List (List Int)) (b15 : List Int) (wj : Int) (w38 : List (List Int × Bool)) {R : Type} (k : Out → Option R) : stepS tt (k39_tab F) (k39_LS3 F) 70 (k39_ls12 F) (loopAt 12 (bodyOf Tryz.f18)) (k39_st12 j4 w4 j7 g7 gl vl gc wc b15 wj w38) k = k39_s12 F j4 w4 j7 g7 gl vl gc wc b15 R (wj, w38) (fun s => k (.norm (k39_st12 j4 w4 j7 g7 gl vl gc wc b15 s.1 s.2))) (fun x => (k39_o12 j4 w4 j7 g7 gl vl gc wc b15 x).run k) := by kernel_rfl
theorem k39_iter12 (F : Nat) (j4 : Int) (w4 : Bool) (j7 : Int) (g7 : Bool) (gl : List (List Int)) (vl : List (List Int)) (gc : List (List Int)) (wc : List (List Int)) (b15 : List Int) {R : Type} (k : Out → Option R) : ∀ (n : Nat) (wj : Int) (w38 : List (List Int × Bool)), iterS tt (k39_tab F) (k39_LS3 F) 70 (k39_ls12 F) (loopAt 12 (bodyOf Tryz.f18)) n (k39_st12 j4 w4 j7 g7 gl vl gc wc b15 wj w38) k = loopC (k39_s12 F j4 w4 j7 g7 gl vl gc wc b15) n (wj, w38) (fun x => (k39_o12 j4 w4 j7 g7 gl vl gc wc b15 x).run k)
  | 0, wj, w38 => rfl
  | n + 1, wj, w38 => (iterS_succ tt (k39_tab F) (k39_LS3 F) 70 (k39_ls12 F) (loopAt 12 (bodyOf Tryz.f18)) n (k39_st12 j4 w4 j7 g7 gl vl gc wc b15 wj w38) k).trans ((k39_step12 F j4 w4 j7 g7 gl vl gc wc b15 wj w38 (nextK (iterS tt (k39_tab F) (k39_LS3 F) 70 (k39_ls12 F) (loopAt 12 (bodyOf Tryz.f18)) n) k)).trans (congrArg (fun kn => k39_s12 F j4 w4 j7 g7 gl vl gc wc b15 R (wj, w38) kn _) (funext (fun ⟨wj, w38⟩ => k39_iter12 F j4 w4 j7 g7 gl vl gc wc b15 k n wj w38))))
theorem k39_lok12 (F : Nat) : LoopOK Tryz.prog (loopAt 12 (bodyOf Tryz.f18)) (k39_ls12 F) := by
  refine loopOK_of mixed ttok deep (k39_tabok F) (loopsOK_at (k39_lsok3 F) 12) (fuel := 70) fun R vals mem np killed k x h => ?_
  simp only [k39_ls12] at h
  split at h
  · rename_i j4 w4 j7 g7 gl vl gc wc wj b15 w38
    simp only [GT.run] at h
    have hc := (cond_noneL h).1
    replace h := (cond_noneL h).2
    refine ⟨F, (k39_iter12 F j4 w4 j7 g7 gl vl gc wc b15 k F wj w38).trans ((loopC_use (k39_s12_nat F j4 w4 j7 g7 gl vl gc wc b15) hc _).trans h)⟩
  · simp only [GT.run] at h
    cases h
noncomputable def k39_LS4 (F : Nat) : LT := (12, k39_ls12 F) :: k39_LS3 F
theorem k39_lsok4 (F : Nat) : LoopsOK Tryz.prog (k39_LS4 F) (bodyOf Tryz.f18) := loopsOK_cons k39_keys (k39_lok12 F) (k39_lsok3 F)
theorem k39_run (F : Nat) (b0 : List Int) (w3 : Int) (w40 : Bool) : runS tt (k39_tab F) (k39_LS4 F) [⟨6, 39, (.rr 2 ([] : List (List Int)))⟩] [] Tryz.f18 (bodyOf Tryz.f18) 70 [(.ints 16 b0), (.int .i64 w3), (.bool w40)] [] = k39_c _ F b0 w3 w40 (fun r => some ⟨(.tup [(.sl 0 0 r.1), (.bool r.2.1)]), [(.vec 39 (.rr 2 r.2.2))], []⟩) := by kernel_rfl
def k39_ent (F : Nat) : Ent := ⟨[], .fresh, fun args mem => match args, mem with
  | [(.ints 16 b0), (.int .i64 w3), (.bool w40)], [] => some ((k39_p F b0 w3 w40).isSome, ⟨(.tup [(.sl 0 0 ((k39_p F b0 w3 w40).getD default).1), (.bool ((k39_p F b0 w3 w40).getD default).2.1)]), [(.vec 39 (.rr 2 ((k39_p F b0 w3 w40).getD default).2.2))], []⟩)
  | _, _ => none⟩
theorem k39_fok : FunOK Tryz.prog 18 := funOK Tryz.func18 (by kernel_rfl) rfl
theorem k39_meets (F : Nat) : Meets Tryz.prog 18 (k39_ent F) := by
  refine meets_of_runS mixed ttok deep (k39_tabok F) Tryz.func18 (body_some rfl) (k39_lsok4 F) fun args mem hfit ret h => ?_
  clear hfit
  simp only [k39_ent] at h
  split at h
  · rename_i b0 w3 w40
    simp only [Option.some.injEq, Prod.mk.injEq] at h
    obtain ⟨hc, rfl⟩ := h
    exact ⟨[⟨6, 39, (.rr 2 ([] : List (List Int)))⟩], [], 70, _, (k39_run F b0 w3 w40).trans ((k39_cp _ F b0 w3 w40 _).trans (bind_use hc _)), rfl, rfl, rfl⟩
  · cases h
/-! loop.example/g01194/impl.MustMerge -/
noncomputable def k73_tab (F : Nat) : Tab := [(18, (k39_ent F))]
theorem k73_tabok (F : Nat) : TabOK Tryz.prog (k73_tab F) := (tab_cons (k39_meets F) k39_fok tab_nil)
noncomputable def k73_LS0 (F : Nat) : LT := []
theorem k73_lsok0 (F : Nat) : LoopsOK Tryz.prog (k73_LS0 F) (bodyOf Tryz.f6) := loopsOK_nil
theorem k73_run (F : Nat) (b0 : List Int) (w3 : Int) : runS tt (k73_tab F) (k73_LS0 F) [] [] Tryz.f6 (bodyOf Tryz.f6) 70 [(.ints 16 b0), (.int .i64 w3)] [] = k73_c _ F b0 w3 (fun r => some ⟨(.tup [(.sl 0 0 r.1), (.bool r.2.1)]), [(.vec 39 (.rr 2 r.2.2))], []⟩) := by kernel_rfl
def k73_ent (F : Nat) : Ent := ⟨[], .fresh, fun args mem => match args, mem with
  | [(.ints 16 b0), (.int .i64 w3)], [] => some ((k73_p F b0 w3).isSome, ⟨(.tup [(.sl 0 0 ((k73_p F b0 w3).getD default).1), (.bool ((k73_p F b0 w3).getD default).2.1)]), [(.vec 39 (.rr 2 ((k73_p F b0 w3).getD default).2.2))], []⟩)
  | _, _ => none⟩
theorem k73_fok : FunOK Tryz.prog 6 := funOK Tryz.func6 (by kernel_rfl) rfl
theorem k73_meets (F : Nat) : Meets Tryz.prog 6 (k73_ent F) := by
  refine meets_of_runS mixed ttok deep (k73_tabok F) Tryz.func6 (body_some rfl) (k73_lsok0 F) fun args mem hfit ret h => ?_
  clear hfit
  simp only [k73_ent] at h
  split at h
  · rename_i b0 w3
    simp only [Option.some.injEq, Prod.mk.injEq] at h
    obtain ⟨hc, rfl⟩ := h
    exact ⟨[], [], 70, _, (k73_run F b0 w3).trans ((k73_cp _ F b0 w3 _).trans (bind_use hc _)), rfl, rfl, rfl⟩
  · cases h
/-! loop.example/g01194/spec.l1Has -/
noncomputable def k110_tab (F : Nat) : Tab := []
theorem k110_tabok (F : Nat) : TabOK Tryz.prog (k110_tab F) := tab_nil
noncomputable def k110_LS0 (F : Nat) : LT := []
theorem k110_lsok0 (F : Nat) : LoopsOK Tryz.prog (k110_LS0 F) (bodyOf Tryz.f81) := loopsOK_nil
theorem k110_keys : keysOK (bodyOf Tryz.f81) = true := by kernel_rfl
def k110_st2 (l0 : List Int) (n1 : Int) (i2 : Int) : St := ⟨expand 18 0 [0, 1, 5] [(.ri .i64 l0), (.int .i64 n1), (.int .i64 i2)], [], 0, []⟩
def k110_o2 (l0 : List Int) (n1 : Int) (x : Bool) : GT := (.br x (.out (.ret ⟨expand 18 0 [4] [(.bool true)], [], 0, []⟩)) (.out (.exit 0 ⟨expand 18 0 [] [], [], 0, []⟩)))
def k110_ls2 (F : Nat) : LoopS := ⟨18, [0, 1, 5], [], [], [], [4], [], [], fun vals mem np killed => match vals, mem, np, killed with
  | [(.ri .i64 l0), (.int .i64 n1), (.int .i64 i2)], [], 0, [] => .br (k110_l2 F l0 n1 i2).isSome (k110_o2 l0 n1 ((k110_l2 F l0 n1 i2).getD default)) .fail
  | _, _, _, _ => .fail⟩
theorem k110_step2 (F : Nat) (l0 : List Int) (n1 : Int) (i2 : Int) {R : Type} (k : Out → Option R) : stepS tt (k110_tab F) (k110_LS0 F) 70 (k110_ls2 F) (loopAt 2 (bodyOf Tryz.f81)) (k110_st2 l0 n1 i2) k = k110_s2 F l0 n1 R i2 (fun s => k (.norm (k110_st2 l0 n1 s))) (fun x => (k110_o2 l0 n1 x).run k) := by kernel_rfl
theorem k110_iter2 (F : Nat) (l0 : List Int) (n1 : Int) {R : Type} (k : Out → Option R) : ∀ (n : Nat) (i2 : Int), iterS tt (k110_tab F) (k110_LS0 F) 70 (k110_ls2 F) (loopAt 2 (bodyOf Tryz.f81)) n (k110_st2 l0 n1 i2) k = loopC (k110_s2 F l0 n1) n i2 (fun x => (k110_o2 l0 n1 x).run k)
  | 0, i2 => rfl
  | n + 1, i2 => (iterS_succ tt (k110_tab F) (k110_LS0 F) 70 (k110_ls2 F) (loopAt 2 (bodyOf Tryz.f81)) n (k110_st2 l0 n1 i2) k).trans ((k110_step2 F l0 n1 i2 (nextK (iterS tt (k110_tab F) (k110_LS0 F) 70 (k110_ls2 F) (loopAt 2 (bodyOf Tryz.f81)) n) k)).trans (congrArg (fun kn => k110_s2 F l0 n1 R i2 kn _) (funext (fun i2 => k110_iter2 F l0 n1 k n i2))))
theorem k110_lok2 (F : Nat) : LoopOK Tryz.prog (loopAt 2 (bodyOf Tryz.f81)) (k110_ls2 F) := by
  refine loopOK_of mixed ttok deep (k110_tabok F) (loopsOK_at (k110_lsok0 F) 2) (fuel := 70) fun R vals mem np killed k x h => ?_
  simp only [k110_ls2] at h
  split at h
  · rename_i l0 n1 i2
    simp only [GT.run] at h
    have hc := (cond_noneL h).1
    replace h := (cond_noneL h).2
    refine ⟨F, (k110_iter2 F l0 n1 k F i2).trans ((loopC_use (k110_s2_nat F l0 n1) hc _).trans h)⟩
  · simp only [GT.run] at h
    cases h
noncomputable def k110_LS1 (F : Nat) : LT := (2, k110_ls2 F) :: k110_LS0 F
theorem k110_lsok1 (F : Nat) : LoopsOK Tryz.prog (k110_LS1 F) (bodyOf Tryz.f81) := loopsOK_cons k110_keys (k110_lok2 F) (k110_lsok0 F)
theorem k110_run (F : Nat) (l0 : List Int) (n1 : Int) : runS tt (k110_tab F) (k110_LS1 F) [] [] Tryz.f81 (bodyOf Tryz.f81) 70 [(.ri .i64 l0), (.int .i64 n1)] [] = k110_c _ F l0 n1 (fun r => some ⟨(.bool r), [], []⟩) := by kernel_rfl
def k110_ent (F : Nat) : Ent := ⟨[], .quiet, fun args mem => match args, mem with
  | [(.ri .i64 l0), (.int .i64 n1)], [] => some ((k110_p F l0 n1).isSome, ⟨(.bool ((k110_p F l0 n1).getD default)), [], []⟩)
  | _, _ => none⟩
theorem k110_fok : FunOK Tryz.prog 81 := funOK Tryz.func81 (by kernel_rfl) rfl
theorem k110_meets (F : Nat) : Meets Tryz.prog 81 (k110_ent F) := by
  refine meets_of_runS mixed ttok deep (k110_tabok F) Tryz.func81 (body_some rfl) (k110_lsok1 F) fun args mem hfit ret h => ?_
  clear hfit
  simp only [k110_ent] at h
  split at h
  · rename_i l0 n1
    simp only [Option.some.injEq, Prod.mk.injEq] at h
    obtain ⟨hc, rfl⟩ := h
    exact ⟨[], [], 70, _, (k110_run F l0 n1).trans ((k110_cp _ F l0 n1 _).trans (bind_use hc _)), rfl, rfl, rfl⟩
  · cases h
/-! loop.example/g01194/spec.l4Spread -/
noncomputable def k87_tab (F : Nat) : Tab := []
theorem k87_tabok (F : Nat) : TabOK Tryz.prog (k87_tab F) := tab_nil
noncomputable def k87_LS0 (F : Nat) : LT := []
theorem k87_lsok0 (F : Nat) : LoopsOK Tryz.prog (k87_LS0 F) (bodyOf Tryz.f82) := loopsOK_nil
theorem k87_keys : keysOK (bodyOf Tryz.f82) = true := by kernel_rfl
def k87_st7 (ja : List Int) (yh : Nat) (jh : Int) (yx : List (List Int)) (n7 : Int) (k8 : Int) (v37 : List Int) : St := ⟨expand 44 0 [0, 3, 4, 5, 6, 7] [(.ri .i64 ja), (.sl 0 0 yh), (.int .i64 jh), (.ptr 1 0 0 4), (.int .i64 n7), (.int .i64 k8)], [(.vec 24 (.rr 4 yx)), (.var 4 (.ri .i64 v37))], 0, []⟩
def k87_o7 (ja : List Int) (yh : Nat) (jh : Int) (yx : List (List Int)) (x : Int × List Int) : GT := (.out (.exit 2 ⟨expand 44 0 [0, 3, 4, 5, 6] [(.ri .i64 ja), (.sl 0 0 yh), (.int .i64 jh), (.ptr 1 0 0 4), (.int .i64 x.1)], [(.vec 24 (.rr 4 yx)), (.var 4 (.ri .i64 x.2))], 0, []⟩))
def k87_ls7 (F : Nat) : LoopS := ⟨44, [0, 3, 4, 5, 6, 7], [], [0, 3, 4, 5, 6], [], [2], [], [], fun vals mem np killed => match vals, mem, np, killed with
  | [(.ri .i64 ja), (.sl 0 0 yh), (.int .i64 jh), (.ptr 1 0 0 4), (.int .i64 n7), (.int .i64 k8)], [(.vec 24 (.rr 4 yx)), (.var 4 (.ri .i64 v37))], 0, [] => .br (k87_l7 F ja yh jh yx n7 k8 v37).isSome (k87_o7 ja yh jh yx ((k87_l7 F ja yh jh yx n7 k8 v37).getD default)) .fail
  | _, _, _, _ => .fail⟩
theorem k87_step7 (F : Nat) (ja : List Int) (yh : Nat) (jh : Int) (yx : List (List Int)) (n7 : Int) (k8 : Int) (v37 : List Int) {R : Type} (k : Out → Option R) : stepS tt (k87_tab F) (k87_LS0 F) 70 (k87_ls7 F) (loopAt 7 (bodyOf Tryz.f82)) (k87_st7 ja yh jh yx n7 k8 v37) k = k87_s7 F ja yh jh yx R (n7, k8, v37) (fun s => k (.norm (k87_st7 ja yh jh yx s.1 s.2.1 s.2.2))) (fun x => (k87_o7 ja yh jh yx x).run k) := by kernel_rfl
theorem k87_iter7 (F : Nat) (ja : List Int) (yh : Nat) (jh : Int) (yx : List (List Int)) {R : Type} (k : Out → Option R) : ∀ (n : Nat) (n7 : Int) (k8 : Int) (v37 : List Int), iterS tt (k87_tab F) (k87_LS0 F) 70 (k87_ls7 F) (loopAt 7 (bodyOf Tryz.f82)) n (k87_st7 ja yh jh yx n7 k8 v37) k = loopC (k87_s7 F ja yh jh yx) n (n7, k8, v37) (fun x => (k87_o7 ja yh jh yx x).run k)
  | 0, n7, k8, v37 => rfl
  | n + 1, n7, k8, v37 => (iterS_succ tt (k87_tab F) (k87_LS0 F) 70 (k87_ls7 F) (loopAt 7 (bodyOf Tryz.f82)) n (k87_st7 ja yh jh yx n7 k8 v37) k).trans ((k87_step7 F ja yh jh yx n7 k8 v37 (nextK (iterS tt (k87_tab F) (k87_LS0 F) 70 (k87_ls7 F) (loopAt 7 (bodyOf Tryz.f82)) n) k)).trans (congrArg (fun kn => k87_s7 F ja yh jh yx R (n7, k8, v37) kn _) (funext (fun ⟨n7, k8, v37⟩ => k87_iter7 F ja yh jh yx k n n7 k8 v37))))
theorem k87_lok7 (F : Nat) : LoopOK Tryz.prog (loopAt 7 (bodyOf Tryz.f82)) (k87_ls7 F) := by
  refine loopOK_of mixed ttok deep (k87_tabok F) (loopsOK_at (k87_lsok0 F) 7) (fuel := 70) fun R vals mem np killed k x h => ?_
  simp only [k87_ls7] at h
  split at h
  · rename_i ja yh jh n7 k8 yx v37
    simp only [GT.run] at h
    have hc := (cond_noneL h).1
    replace h := (cond_noneL h).2
    refine ⟨F, (k87_iter7 F ja yh jh yx k F n7 k8 v37).trans ((loopC_use (k87_s7_nat F ja yh jh yx) hc _).trans h)⟩
  · simp only [GT.run] at h
    cases h
noncomputable def k87_LS1 (F : Nat) : LT := (7, k87_ls7 F) :: k87_LS0 F
theorem k87_lsok1 (F : Nat) : LoopsOK Tryz.prog (k87_LS1 F) (bodyOf Tryz.f82) := loopsOK_cons k87_keys (k87_lok7 F) (k87_lsok0 F)
def k87_st3 (ja : List Int) (yh : Nat) (jh : Int) (j5 : List (List Int)) : St := ⟨expand 44 0 [0, 3, 4] [(.ri .i64 ja), (.sl 0 0 yh), (.int .i64 jh)], [(.vec 24 (.rr 4 j5))], 0, []⟩
def k87_o3 (ja : List Int) (x : Nat × List (List Int)) : GT := (.out (.exit 0 ⟨expand 44 0 [3] [(.sl 0 0 x.1)], [(.vec 24 (.rr 4 x.2))], 0, []⟩))
def k87_ls3 (F : Nat) : LoopS := ⟨44, [0, 3, 4], [], [3], [], [2], [], [], fun vals mem np killed => match vals, mem, np, killed with
  | [(.ri .i64 ja), (.sl 0 0 yh), (.int .i64 jh)], [(.vec 24 (.rr 4 j5))], 0, [] => .br (k87_l3 F ja yh jh j5).isSome (k87_o3 ja ((k87_l3 F ja yh jh j5).getD default)) .fail
  | _, _, _, _ => .fail⟩
theorem k87_step3 (F : Nat) (ja : List Int) (yh : Nat) (jh : Int) (j5 : List (List Int)) {R : Type} (k : Out → Option R) : stepS tt (k87_tab F) (k87_LS1 F) 70 (k87_ls3 F) (loopAt 3 (bodyOf Tryz.f82)) (k87_st3 ja yh jh j5) k = k87_s3 F ja R (yh, jh, j5) (fun s => k (.norm (k87_st3 ja s.1 s.2.1 s.2.2))) (fun x => (k87_o3 ja x).run k) := by kernel_rfl
theorem k87_iter3 (F : Nat) (ja : List Int) {R : Type} (k : Out → Option R) : ∀ (n : Nat) (yh : Nat) (jh : Int) (j5 : List (List Int)), iterS tt (k87_tab F) (k87_LS1 F) 70 (k87_ls3 F) (loopAt 3 (bodyOf Tryz.f82)) n (k87_st3 ja yh jh j5) k = loopC (k87_s3 F ja) n (yh, jh, j5) (fun x => (k87_o3 ja x).run k)
  | 0, yh, jh, j5 => rfl
  | n + 1, yh, jh, j5 => (iterS_succ tt (k87_tab F) (k87_LS1 F) 70 (k87_ls3 F) (loopAt 3 (bodyOf Tryz.f82)) n (k87_st3 ja yh jh j5) k).trans ((k87_step3 F ja yh jh j5 (nextK (iterS tt (k87_tab F) (k87_LS1 F) 70 (k87_ls3 F) (loopAt 3 (bodyOf Tryz.f82)) n) k)).trans (congrArg (fun kn => k87_s3 F ja R (yh, jh, j5) kn _) (funext (fun ⟨yh, jh, j5⟩ => k87_iter3 F ja k n yh jh j5))))
theorem k87_lok3 (F : Nat) : LoopOK Tryz.prog (loopAt 3 (bodyOf Tryz.f82)) (k87_ls3 F) := by
  refine loopOK_of mixed ttok deep (k87_tabok F) (loopsOK_at (k87_lsok1 F) 3) (fuel := 70) fun R vals mem np killed k x h => ?_
  simp only [k87_ls3] at h
  split at h
  · rename_i ja yh jh j5
    simp only [GT.run] at h
    have hc := (cond_noneL h).1
    replace h := (cond_noneL h).2
    refine ⟨F, (k87_iter3 F ja k F yh jh j5).trans ((loopC_use (k87_s3_nat F ja) hc _).trans h)⟩
  · simp only [GT.run] at h
    cases h
noncomputable def k87_LS2 (F : Nat) : LT := (3, k87_ls3 F) :: k87_LS1 F
theorem k87_lsok2 (F : Nat) : LoopsOK Tryz.prog (k87_LS2 F) (bodyOf Tryz.f82) := loopsOK_cons k87_keys (k87_lok3 F) (k87_lsok1 F)
theorem k87_run (F : Nat) (ja : List Int) : runS tt (k87_tab F) (k87_LS2 F) [] [] Tryz.f82 (bodyOf Tryz.f82) 70 [(.ri .i64 ja)] [] = k87_c _ F ja (fun r => some ⟨(.sl 0 0 r.1), [(.vec 24 (.rr 4 r.2))], []⟩) := by kernel_rfl
def k87_ent (F : Nat) : Ent := ⟨[], .fresh, fun args mem => match args, mem with
  | [(.ri .i64 ja)], [] => some ((k87_p F ja).isSome, ⟨(.sl 0 0 ((k87_p F ja).getD default).1), [(.vec 24 (.rr 4 ((k87_p F ja).getD default).2))], []⟩)
  | _, _ => none⟩
theorem k87_fok : FunOK Tryz.prog 82 := funOK Tryz.func82 (by kernel_rfl) rfl
theorem k87_meets (F : Nat) : Meets Tryz.prog 82 (k87_ent F) := by
  refine meets_of_runS mixed ttok deep (k87_tabok F) Tryz.func82 (body_some rfl) (k87_lsok2 F) fun args mem hfit ret h => ?_
  clear hfit
  simp only [k87_ent] at h
  split at h
  · rename_i ja
    simp only [Option.some.injEq, Prod.mk.injEq] at h
    obtain ⟨hc, rfl⟩ := h
    exact ⟨[], [], 70, _, (k87_run F ja).trans ((k87_cp _ F ja _).trans (bind_use hc _)), rfl, rfl, rfl⟩
  · cases h
/-! loop.example/g01194/spec.l4Less -/
noncomputable def k102_tab (F : Nat) : Tab := []
theorem k102_tabok (F : Nat) : TabOK Tryz.prog (k102_tab F) := tab_nil
noncomputable def k102_LS0 (F : Nat) : LT := []
theorem k102_lsok0 (F : Nat) : LoopsOK Tryz.prog (k102_LS0 F) (bodyOf Tryz.f105) := loopsOK_nil
theorem k102_keys : keysOK (bodyOf Tryz.f105) = true := by kernel_rfl
def k102_st2 (a7 : List Int) (b8 : List Int) (k6 : Int) : St := ⟨expand 24 0 [2, 3, 5] [(.ptr 0 0 0 4), (.ptr 1 0 0 4), (.int .i64 k6)], [(.var 4 (.ri .i64 a7)), (.var 4 (.ri .i64 b8))], 0, []⟩
def k102_o2 (a7 : List Int) (b8 : List Int) (x : Bool × Bool) : GT := (.br x.1 (.out (.ret ⟨expand 24 0 [4] [(.bool x.2)], [], 0, []⟩)) (.out (.exit 0 ⟨expand 24 0 [] [], [], 0, []⟩)))
def k102_ls2 (F : Nat) : LoopS := ⟨24, [2, 3, 5], [], [], [], [4], [], [], fun vals mem np killed => match vals, mem, np, killed with
  | [(.ptr 0 0 0 4), (.ptr 1 0 0 4), (.int .i64 k6)], [(.var 4 (.ri .i64 a7)), (.var 4 (.ri .i64 b8))], 0, [] => .br (k102_l2 F a7 b8 k6).isSome (k102_o2 a7 b8 ((k102_l2 F a7 b8 k6).getD default)) .fail
  | _, _, _, _ => .fail⟩
theorem k102_step2 (F : Nat) (a7 : List Int) (b8 : List Int) (k6 : Int) {R : Type} (k : Out → Option R) : stepS tt (k102_tab F) (k102_LS0 F) 70 (k102_ls2 F) (loopAt 2 (bodyOf Tryz.f105)) (k102_st2 a7 b8 k6) k = k102_s2 F a7 b8 R k6 (fun s => k (.norm (k102_st2 a7 b8 s))) (fun x => (k102_o2 a7 b8 x).run k) := by kernel_rfl
theorem k102_iter2 (F : Nat) (a7 : List Int) (b8 : List Int) {R : Type} (k : Out → Option R) : ∀ (n : Nat) (k6 : Int), iterS tt (k102_tab F) (k102_LS0 F) 70 (k102_ls2 F) (loopAt 2 (bodyOf Tryz.f105)) n (k102_st2 a7 b8 k6) k = loopC (k102_s2 F a7 b8) n k6 (fun x => (k102_o2 a7 b8 x).run k)
  | 0, k6 => rfl
  | n + 1, k6 => (iterS_succ tt (k102_tab F) (k102_LS0 F) 70 (k102_ls2 F) (loopAt 2 (bodyOf Tryz.f105)) n (k102_st2 a7 b8 k6) k).trans ((k102_step2 F a7 b8 k6 (nextK (iterS tt (k102_tab F) (k102_LS0 F) 70 (k102_ls2 F) (loopAt 2 (bodyOf Tryz.f105)) n) k)).trans (congrArg (fun kn => k102_s2 F a7 b8 R k6 kn _) (funext (fun k6 => k102_iter2 F a7 b8 k n k6))))
theorem k102_lok2 (F : Nat) : LoopOK Tryz.prog (loopAt 2 (bodyOf Tryz.f105)) (k102_ls2 F) := by
  refine loopOK_of mixed ttok deep (k102_tabok F) (loopsOK_at (k102_lsok0 F) 2) (fuel := 70) fun R vals mem np killed k x h => ?_
  simp only [k102_ls2] at h
  split at h
  · rename_i k6 a7 b8
    simp only [GT.run] at h
    have hc := (cond_noneL h).1
    replace h := (cond_noneL h).2
    refine ⟨F, (k102_iter2 F a7 b8 k F k6).trans ((loopC_use (k102_s2_nat F a7 b8) hc _).trans h)⟩
  · simp only [GT.run] at h
    cases h
noncomputable def k102_LS1 (F : Nat) : LT := (2, k102_ls2 F) :: k102_LS0 F
theorem k102_lsok1 (F : Nat) : LoopsOK Tryz.prog (k102_LS1 F) (bodyOf Tryz.f105) := loopsOK_cons k102_keys (k102_lok2 F) (k102_lsok0 F)
theorem k102_run (F : Nat) (a0 : List Int) (b1 : List Int) : runS tt (k102_tab F) (k102_LS1 F) [] [] Tryz.f105 (bodyOf Tryz.f105) 70 [(.ints 4 a0), (.ints 4 b1)] [] = k102_c _ F a0 b1 (fun r => some ⟨(.bool r), [], []⟩) := by kernel_rfl
def k102_ent (F : Nat) : Ent := ⟨[], .quiet, fun args mem => match args, mem with
  | [(.ints 4 a0), (.ints 4 b1)], [] => some ((k102_p F a0 b1).isSome, ⟨(.bool ((k102_p F a0 b1).getD default)), [], []⟩)
  | _, _ => none⟩
theorem k102_fok : FunOK Tryz.prog 105 := funOK Tryz.func105 (by kernel_rfl) rfl
theorem k102_meets (F : Nat) : Meets Tryz.prog 105 (k102_ent F) := by
  refine meets_of_runS mixed ttok deep (k102_tabok F) Tryz.func105 (body_some rfl) (k102_lsok1 F) fun args mem hfit ret h => ?_
  clear hfit
  simp only [k102_ent] at h
  split at h
  · rename_i a0 b1
    simp only [Option.some.injEq, Prod.mk.injEq] at h
    obtain ⟨hc, rfl⟩ := h
    exact ⟨[], [], 70, _, (k102_run F a0 b1).trans ((k102_cp _ F a0 b1 _).trans (bind_use hc _)), rfl, rfl, rfl⟩
  · cases h
/-! loop.example/g01194/spec.l4Place -/
noncomputable def k94_tab (F : Nat) : Tab := [(105, (k102_ent F))]
theorem k94_tabok (F : Nat) : TabOK Tryz.prog (k94_tab F) := (tab_cons (k102_meets F) k102_fok tab_nil)
noncomputable def k94_LS0 (F : Nat) : LT := []
theorem k94_lsok0 (F : Nat) : LoopsOK Tryz.prog (k94_LS0 F) (bodyOf Tryz.f93) := loopsOK_nil
theorem k94_keys : keysOK (bodyOf Tryz.f93) = true := by kernel_rfl
def k94_st2 (wa : List (List Int)) (j8 : List Int) (n4 : Int) : St := ⟨expand 21 0 [0, 3, 5] [(.rr 4 wa), (.ptr 0 0 0 4), (.int .i64 n4)], [(.var 4 (.ri .i64 j8))], 0, []⟩
def k94_o2 (wa : List (List Int)) (j8 : List Int) (x : Int) : GT := (.out (.exit 0 ⟨expand 21 0 [5] [(.int .i64 x)], [], 0, []⟩))
def k94_ls2 (F : Nat) : LoopS := ⟨21, [0, 3, 5], [], [5], [], [4], [], [], fun vals mem np killed => match vals, mem, np, killed with
  | [(.rr 4 wa), (.ptr 0 0 0 4), (.int .i64 n4)], [(.var 4 (.ri .i64 j8))], 0, [] => .br (k94_l2 F wa j8 n4).isSome (k94_o2 wa j8 ((k94_l2 F wa j8 n4).getD default)) .fail
  | _, _, _, _ => .fail⟩
theorem k94_step2 (F : Nat) (wa : List (List Int)) (j8 : List Int) (n4 : Int) {R : Type} (k : Out → Option R) : stepS tt (k94_tab F) (k94_LS0 F) 70 (k94_ls2 F) (loopAt 2 (bodyOf Tryz.f93)) (k94_st2 wa j8 n4) k = k94_s2 F wa j8 R n4 (fun s => k (.norm (k94_st2 wa j8 s))) (fun x => (k94_o2 wa j8 x).run k) := by kernel_rfl
theorem k94_iter2 (F : Nat) (wa : List (List Int)) (j8 : List Int) {R : Type} (k : Out → Option R) : ∀ (n : Nat) (n4 : Int), iterS tt (k94_tab F) (k94_LS0 F) 70 (k94_ls2 F) (loopAt 2 (bodyOf Tryz.f93)) n (k94_st2 wa j8 n4) k = loopC (k94_s2 F wa j8) n n4 (fun x => (k94_o2 wa j8 x).run k)
  | 0, n4 => rfl
  | n + 1, n4 => (iterS_succ tt (k94_tab F) (k94_LS0 F) 70 (k94_ls2 F) (loopAt 2 (bodyOf Tryz.f93)) n (k94_st2 wa j8 n4) k).trans ((k94_step2 F wa j8 n4 (nextK (iterS tt (k94_tab F) (k94_LS0 F) 70 (k94_ls2 F) (loopAt 2 (bodyOf Tryz.f93)) n) k)).trans (congrArg (fun kn => k94_s2 F wa j8 R n4 kn _) (funext (fun n4 => k94_iter2 F wa j8 k n n4))))
theorem k94_lok2 (F : Nat) : LoopOK Tryz.prog (loopAt 2 (bodyOf Tryz.f93)) (k94_ls2 F) := by
  refine loopOK_of mixed ttok deep (k94_tabok F) (loopsOK_at (k94_lsok0 F) 2) (fuel := 70) fun R vals mem np killed k x h => ?_
  simp only [k94_ls2] at h
  split at h
  · rename_i wa n4 j8
    simp only [GT.run] at h
    have hc := (cond_noneL h).1
    replace h := (cond_noneL h).2
    refine ⟨F, (k94_iter2 F wa j8 k F n4).trans ((loopC_use (k94_s2_nat F wa j8) hc _).trans h)⟩
  · simp only [GT.run] at h
    cases h
noncomputable def k94_LS1 (F : Nat) : LT := (2, k94_ls2 F) :: k94_LS0 F
theorem k94_lsok1 (F : Nat) : LoopsOK Tryz.prog (k94_LS1 F) (bodyOf Tryz.f93) := loopsOK_cons k94_keys (k94_lok2 F) (k94_lsok0 F)
theorem k94_run (F : Nat) (wa : List (List Int)) (jj : List Int) : runS tt (k94_tab F) (k94_LS1 F) [] [] Tryz.f93 (bodyOf Tryz.f93) 70 [(.rr 4 wa), (.ints 4 jj)] [] = k94_c _ F wa jj (fun r => some ⟨(.int .i64 r), [], []⟩) := by kernel_rfl
def k94_ent (F : Nat) : Ent := ⟨[], .quiet, fun args mem => match args, mem with
  | [(.rr 4 wa), (.ints 4 jj)], [] => some ((k94_p F wa jj).isSome, ⟨(.int .i64 ((k94_p F wa jj).getD default)), [], []⟩)
  | _, _ => none⟩
theorem k94_fok : FunOK Tryz.prog 93 := funOK Tryz.func93 (by kernel_rfl) rfl
theorem k94_meets (F : Nat) : Meets Tryz.prog 93 (k94_ent F) := by
  refine meets_of_runS mixed ttok deep (k94_tabok F) Tryz.func93 (body_some rfl) (k94_lsok1 F) fun args mem hfit ret h => ?_
  clear hfit
  simp only [k94_ent] at h
  split at h
  · rename_i wa jj
    simp only [Option.some.injEq, Prod.mk.injEq] at h
    obtain ⟨hc, rfl⟩ := h
    exact ⟨[], [], 70, _, (k94_run F wa jj).trans ((k94_cp _ F wa jj _).trans (bind_use hc _)), rfl, rfl, rfl⟩
  · cases h
/-! loop.example/g01194/spec.l4Put -/
noncomputable def k113_tab (F : Nat) : Tab := [(93, (k94_ent F))]
theorem k113_tabok (F : Nat) : TabOK Tryz.prog (k113_tab F) := (tab_cons (k94_meets F) k94_fok tab_nil)
noncomputable def k113_LS0 (F : Nat) : LT := []
theorem k113_lsok0 (F : Nat) : LoopsOK Tryz.prog (k113_LS0 F) (bodyOf Tryz.f84) := loopsOK_nil
theorem k113_run (F : Nat) (wa : List (List Int)) (jj : List Int) : runS tt (k113_tab F) (k113_LS0 F) [⟨4, 0, (.tup [])⟩] [] Tryz.f84 (bodyOf Tryz.f84) 70 [(.rr 4 wa), (.ints 4 jj)] [] = k113_c _ F wa jj (fun r => some ⟨(.rr 4 r), [], []⟩) := by kernel_rfl
def k113_ent (F : Nat) : Ent := ⟨[], .quiet, fun args mem => match args, mem with
  | [(.rr 4 wa), (.ints 4 jj)], [] => some ((k113_p F wa jj).isSome, ⟨(.rr 4 ((k113_p F wa jj).getD default)), [], []⟩)
  | _, _ => none⟩
theorem k113_fok : FunOK Tryz.prog 84 := funOK Tryz.func84 (by kernel_rfl) rfl
theorem k113_meets (F : Nat) : Meets Tryz.prog 84 (k113_ent F) := by
  refine meets_of_runS mixed ttok deep (k113_tabok F) Tryz.func84 (body_some rfl) (k113_lsok0 F) fun args mem hfit ret h => ?_
  clear hfit
  simp only [k113_ent] at h
  split at h
  · rename_i wa jj
    simp only [Option.some.injEq, Prod.mk.injEq] at h
    obtain ⟨hc, rfl⟩ := h
    exact ⟨[⟨4, 0, (.tup [])⟩], [], 70, _, (k113_run F wa jj).trans ((k113_cp _ F wa jj _).trans (bind_use hc _)), rfl, rfl, rfl⟩
  · cases h
end Go.Proofs.YtabfliifleonaajGreat
