/-
Pure functions and what the code of them does, by program; without conditions.
-/
import Derived.Test.YtabfliifleonaajGreatQjP8
import Derived.Test.YtabfliifleonaajGreatQjS7
namespace Go.Proofs.YtabfliifleonaajGreat
open Go Go.Lv Go.Lv.P Go.Proofs
set_option linter.unusedVariables false
set_option linter.unusedSimpArgs false
set_option maxRecDepth 100000
/-! loop.example/g01194/laws.FnMergersBack -/
noncomputable def k37_tab (F : Nat) : Tab := [(4, (k114_ent F)), (5, (k38_ent F)), (6, (k73_ent F)), (7, (k74_ent F)), (8, (k98_ent F)), (9, (k80_ent F)), (10, (k85_ent F)), (11, (k59_ent F)), (12, (k67_ent F)), (13, (k35_ent F)), (14, (k60_ent F)), (15, (k51_ent F)), (16, (k57_ent F))]
theorem k37_tabok (F : Nat) : TabOK Tryz.prog (k37_tab F) := (tab_cons (k114_meets F) k114_fok (tab_cons (k38_meets F) k38_fok (tab_cons (k73_meets F) k73_fok (tab_cons (k74_meets F) k74_fok (tab_cons (k98_meets F) k98_fok (tab_cons (k80_meets F) k80_fok (tab_cons (k85_meets F) k85_fok (tab_cons (k59_meets F) k59_fok (tab_cons (k67_meets F) k67_fok (tab_cons (k35_meets F) k35_fok (tab_cons (k60_meets F) k60_fok (tab_cons (k51_meets F) k51_fok (tab_cons (k57_meets F) k57_fok tab_nil)))))))))))))
noncomputable def k37_LS0 (F : Nat) : LT := []
theorem k37_lsok0 (F : Nat) : LoopsOK Tryz.prog (k37_LS0 F) (bodyOf Tryz.f3) := loopsOK_nil
theorem k37_keys : keysOK (bodyOf Tryz.f3) = true := by kernel_rfl
def k37_st36 (vd : Nat) (je : Nat) (i4 : Int) (jq : List (List Int)) (gq : List (List Int)) (in5 : Bool) (k6 : Int) : St := ⟨expand 228 0 [5, 9, 30, 31, 32] [(.sl 0 0 vd), (.sl 1 0 je), (.int .i64 i4), (.bool in5), (.int .i64 k6)], [(.vec 39 (.rr 2 jq)), (.vec 39 (.rr 2 gq))], 0, []⟩
def k37_o36 (vd : Nat) (je : Nat) (i4 : Int) (jq : List (List Int)) (gq : List (List Int)) (x : Bool) : GT := (.out (.exit 2 ⟨expand 228 0 [5, 9, 30, 31] [(.sl 0 0 vd), (.sl 1 0 je), (.int .i64 i4), (.bool x)], [(.vec 39 (.rr 2 jq)), (.vec 39 (.rr 2 gq))], 0, []⟩))
def k37_ls36 (F : Nat) : LoopS := ⟨228, [5, 9, 30, 31, 32], [], [5, 9, 30, 31], [], [2], [], [], fun vals mem np killed => match vals, mem, np, killed with
  | [(.sl 0 0 vd), (.sl 1 0 je), (.int .i64 i4), (.bool in5), (.int .i64 k6)], [(.vec 39 (.rr 2 jq)), (.vec 39 (.rr 2 gq))], 0, [] => .br (k37_l36 F vd je i4 jq gq in5 k6).isSome (k37_o36 vd je i4 jq gq ((k37_l36 F vd je i4 jq gq in5 k6).getD default)) .fail
  | _, _, _, _ => .fail⟩
theorem k37_step36 (F : Nat) (vd : Nat) (je : Nat) (i4 : Int) (jq : List (List Int)) (gq : List (List Int)) (in5 : Bool) (k6 : Int) {R : Type} (k : Out → Option R) : stepS tt (k37_tab F) (k37_LS0 F) 70 (k37_ls36 F) (loopAt 36 (bodyOf Tryz.f3)) (k37_st36 vd je i4 jq gq in5 k6) k = k37_s36 F vd je i4 jq gq R (in5, k6) (fun s => k (.norm (k37_st36 vd je i4 jq gq s.1 s.2))) (fun x => (k37_o36 vd je i4 jq gq x).run k) := by kernel_rfl
theorem k37_iter36 (F : Nat) (vd : Nat) (je : Nat) (i4 : Int) (jq : List (List Int)) (gq : List (List Int)) {R : Type} (k : Out → Option R) : ∀ (n : Nat) (in5 : Bool) (k6 : Int), iterS tt (k37_tab F) (k37_LS0 F) 70 (k37_ls36 F) (loopAt 36 (bodyOf Tryz.f3)) n (k37_st36 vd je i4 jq gq in5 k6) k = loopC (k37_s36 F vd je i4 jq gq) n (in5, k6) (fun x => (k37_o36 vd je i4 jq gq x).run k)
  | 0, in5, k6 => rfl
  | n + 1, in5, k6 => (iterS_succ tt (k37_tab F) (k37_LS0 F) 70 (k37_ls36 F) (loopAt 36 (bodyOf Tryz.f3)) n (k37_st36 vd je i4 jq gq in5 k6) k).trans ((k37_step36 F vd je i4 jq gq in5 k6 (nextK (iterS tt (k37_tab F) (k37_LS0 F) 70 (k37_ls36 F) (loopAt 36 (bodyOf Tryz.f3)) n) k)).trans (congrArg (fun kn => k37_s36 F vd je i4 jq gq R (in5, k6) kn _) (funext (fun ⟨in5, k6⟩ => k37_iter36 F vd je i4 jq gq k n in5 k6))))
theorem k37_lok36 (F : Nat) : LoopOK Tryz.prog (loopAt 36 (bodyOf Tryz.f3)) (k37_ls36 F) := by
  refine loopOK_of mixed ttok deep (k37_tabok F) (loopsOK_at (k37_lsok0 F) 36) (fuel := 70) fun R vals mem np killed k x h => ?_
  simp only [k37_ls36] at h
  split at h
  · rename_i vd je i4 in5 k6 jq gq
    simp only [GT.run] at h
    have hc := (cond_noneL h).1
    replace h := (cond_noneL h).2
    refine ⟨F, (k37_iter36 F vd je i4 jq gq k F in5 k6).trans ((loopC_use (k37_s36_nat F vd je i4 jq gq) hc _).trans h)⟩
  · simp only [GT.run] at h
    cases h
noncomputable def k37_LS1 (F : Nat) : LT := (36, k37_ls36 F) :: k37_LS0 F
theorem k37_lsok1 (F : Nat) : LoopsOK Tryz.prog (k37_LS1 F) (bodyOf Tryz.f3) := loopsOK_cons k37_keys (k37_lok36 F) (k37_lsok0 F)
def k37_st32 (vd : Nat) (je : Nat) (y36 : List (List Int)) (j36 : List (List Int)) (i4 : Int) : St := ⟨expand 228 0 [5, 9, 30] [(.sl 0 0 vd), (.sl 1 0 je), (.int .i64 i4)], [(.vec 39 (.rr 2 y36)), (.vec 39 (.rr 2 j36))], 0, []⟩
def k37_o32 (vd : Nat) (je : Nat) (y36 : List (List Int)) (j36 : List (List Int)) (x : Bool) : GT := (.br x (.out (.ret ⟨expand 228 0 [2] [(.bool false)], [], 0, []⟩)) (.out (.exit 0 ⟨expand 228 0 [] [], [], 0, []⟩)))
def k37_ls32 (F : Nat) : LoopS := ⟨228, [5, 9, 30], [], [], [], [2], [], [], fun vals mem np killed => match vals, mem, np, killed with
  | [(.sl 0 0 vd), (.sl 1 0 je), (.int .i64 i4)], [(.vec 39 (.rr 2 y36)), (.vec 39 (.rr 2 j36))], 0, [] => .br (k37_l32 F vd je y36 j36 i4).isSome (k37_o32 vd je y36 j36 ((k37_l32 F vd je y36 j36 i4).getD default)) .fail
  | _, _, _, _ => .fail⟩
theorem k37_step32 (F : Nat) (vd : Nat) (je : Nat) (y36 : List (List Int)) (j36 : List (List Int)) (i4 : Int) {R : Type} (k : Out → Option R) : stepS tt (k37_tab F) (k37_LS1 F) 70 (k37_ls32 F) (loopAt 32 (bodyOf Tryz.f3)) (k37_st32 vd je y36 j36 i4) k = k37_s32 F vd je y36 j36 R i4 (fun s => k (.norm (k37_st32 vd je y36 j36 s))) (fun x => (k37_o32 vd je y36 j36 x).run k) := by kernel_rfl
theorem k37_iter32 (F : Nat) (vd : Nat) (je : Nat) (y36 : List (List Int)) (j36 : List (List Int)) {R : Type} (k : Out → Option R) : ∀ (n : Nat) (i4 : Int), iterS tt (k37_tab F) (k37_LS1 F) 70 (k37_ls32 F) (loopAt 32 (bodyOf Tryz.f3)) n (k37_st32 vd je y36 j36 i4) k = loopC (k37_s32 F vd je y36 j36) n i4 (fun x => (k37_o32 vd je y36 j36 x).run k)
  | 0, i4 => rfl
  | n + 1, i4 => (iterS_succ tt (k37_tab F) (k37_LS1 F) 70 (k37_ls32 F) (loopAt 32 (bodyOf Tryz.f3)) n (k37_st32 vd je y36 j36 i4) k).trans ((k37_step32 F vd je y36 j36 i4 (nextK (iterS tt (k37_tab F) (k37_LS1 F) 70 (k37_ls32 F) (loopAt 32 (bodyOf Tryz.f3)) n) k)).trans (congrArg (fun kn => k37_s32 F vd je y36 j36 R i4 kn _) (funext (fun i4 => k37_iter32 F vd je y36 j36 k n i4))))
theorem k37_lok32 (F : Nat) : LoopOK Tryz.prog (loopAt 32 (bodyOf Tryz.f3)) (k37_ls32 F) := by
  refine loopOK_of mixed ttok deep (k37_tabok F) (loopsOK_at (k37_lsok1 F) 32) (fuel := 70) fun R vals mem np killed k x h => ?_
  simp only [k37_ls32] at h
  split at h
  · rename_i vd je i4 y36 j36
    simp only [GT.run] at h
    have hc := (cond_noneL h).1
    replace h := (cond_noneL h).2
    refine ⟨F, (k37_iter32 F vd je y36 j36 k F i4).trans ((loopC_use (k37_s32_nat F vd je y36 j36) hc _).trans h)⟩
  · simp only [GT.run] at h
    cases h
noncomputable def k37_LS2 (F : Nat) : LT := (32, k37_ls32 F) :: k37_LS1 F
theorem k37_lsok2 (F : Nat) : LoopsOK Tryz.prog (k37_LS2 F) (bodyOf Tryz.f3) := loopsOK_cons k37_keys (k37_lok32 F) (k37_lsok1 F)
theorem k37_run (F : Nat) (j9 : List Int) : runS tt (k37_tab F) (k37_LS2 F) [] [] Tryz.f3 (bodyOf Tryz.f3) 70 [(.ri .u8 j9)] [] = k37_c _ F j9 (fun r => some ⟨(.bool r), [], []⟩) := by kernel_rfl
def k37_ent (F : Nat) : Ent := ⟨[], .quiet, fun args mem => match args, mem with
  | [(.ri .u8 j9)], [] => some ((k37_p F j9).isSome, ⟨(.bool ((k37_p F j9).getD default)), [], []⟩)
  | _, _ => none⟩
theorem k37_fok : FunOK Tryz.prog 3 := funOK Tryz.func3 (by kernel_rfl) rfl
theorem k37_meets (F : Nat) : Meets Tryz.prog 3 (k37_ent F) := by
  refine meets_of_runS mixed ttok deep (k37_tabok F) Tryz.func3 (body_some rfl) (k37_lsok2 F) fun args mem hfit ret h => ?_
  clear hfit
  simp only [k37_ent] at h
  split at h
  · rename_i j9
    simp only [Option.some.injEq, Prod.mk.injEq] at h
    obtain ⟨hc, rfl⟩ := h
    exact ⟨[], [], 70, _, (k37_run F j9).trans ((k37_cp _ F j9 _).trans (bind_use hc _)), rfl, rfl, rfl⟩
  · cases h
end Go.Proofs.YtabfliifleonaajGreat
