/-
Pure functions and what the code of them does, by program; without conditions.
-/
import Derived.Test.YtabfliifleonaakGreatQkP5
import Derived.Test.YtabfliifleonaakGreatQkS4
namespace Go.Proofs.YtabfliifleonaakGreat
open Go Go.Lv Go.Lv.P Go.Proofs
set_option linter.unusedVariables false
set_option linter.unusedSimpArgs false
set_option maxRecDepth 100000
noncomputable def k123_tab (F : Nat) : Tab := []
theorem k123_tabok (F : Nat) : TabOK Tryz.prog (k123_tab F) := u015
noncomputable def k123_LS0 (F : Nat) : LT := []
theorem k123_lsok0 (F : Nat) : u011 Tryz.prog (k123_LS0 F) (u000 Tryz.f116) := u005
theorem k123_keys : u059 (u000 Tryz.f116) = true := by kernel_rfl
def k123_st2 (l0 : List Int) (n1 : Int) (i2 : Int) : St := ⟨u018 18 0 [0, 1, 5] [(.ri .i64 l0), (.int .i64 n1), (.int .i64 i2)], [], 0, []⟩
def k123_o2 (l0 : List Int) (n1 : Int) (x : Bool) : GT := (.br x (.out (.ret ⟨u018 18 0 [4] [(.bool true)], [], 0, []⟩)) (.out (.exit 0 ⟨u018 18 0 [] [], [], 0, []⟩)))
def k123_ls2 (F : Nat) : LoopS := ⟨18, [0, 1, 5], [], [], [], [4], [], [], fun vals mem np killed => match vals, mem, np, killed with
  | [(.ri .i64 l0), (.int .i64 n1), (.int .i64 i2)], [], 0, [] => .br (k123_l2 F l0 n1 i2).isSome (k123_o2 l0 n1 ((k123_l2 F l0 n1 i2).getD default)) .fail
  | _, _, _, _ => .fail⟩
theorem k123_step2 (F : Nat) (l0 : List Int) (n1 : Int) (i2 : Int) {R : Type} (k : Out → Option R) : stepS tt (k123_tab F) (k123_LS0 F) 70 (k123_ls2 F) (u010 2 (u000 Tryz.f116)) (k123_st2 l0 n1 i2) k = k123_s2 F l0 n1 R i2 (fun s => k (.norm (k123_st2 l0 n1 s))) (fun x => (k123_o2 l0 n1 x).run k) := by kernel_rfl
theorem k123_iter2 (F : Nat) (l0 : List Int) (n1 : Int) {R : Type} (k : Out → Option R) : ∀ (n : Nat) (i2 : Int), iterS tt (k123_tab F) (k123_LS0 F) 70 (k123_ls2 F) (u010 2 (u000 Tryz.f116)) n (k123_st2 l0 n1 i2) k = loopC (k123_s2 F l0 n1) n i2 (fun x => (k123_o2 l0 n1 x).run k)
  | 0, i2 => rfl
  | n + 1, i2 => (u017 tt (k123_tab F) (k123_LS0 F) 70 (k123_ls2 F) (u010 2 (u000 Tryz.f116)) n (k123_st2 l0 n1 i2) k).trans ((k123_step2 F l0 n1 i2 (nextK (iterS tt (k123_tab F) (k123_LS0 F) 70 (k123_ls2 F) (u010 2 (u000 Tryz.f116)) n) k)).trans (congrArg (fun kn => k123_s2 F l0 n1 R i2 kn _) (funext (fun i2 => k123_iter2 F l0 n1 k n i2))))
theorem k123_lok2 (F : Nat) : u041 Tryz.prog (u010 2 (u000 Tryz.f116)) (k123_ls2 F) := by
  refine u019 mixed ttok deep (k123_tabok F) (u016 (k123_lsok0 F) 2) (fuel := 70) fun R vals mem np killed k x h => ?_
  simp only [k123_ls2] at h
  split at h
  · rename_i l0 n1 i2
    simp only [GT.run] at h
    have hc := (u007 h).1
    replace h := (u007 h).2
    refine ⟨F, (k123_iter2 F l0 n1 k F i2).trans ((u020 (k123_s2_nat F l0 n1) hc _).trans h)⟩
  · simp only [GT.run] at h
    cases h
noncomputable def k123_LS1 (F : Nat) : LT := (2, k123_ls2 F) :: k123_LS0 F
theorem k123_lsok1 (F : Nat) : u011 Tryz.prog (k123_LS1 F) (u000 Tryz.f116) := u012 k123_keys (k123_lok2 F) (k123_lsok0 F)
theorem k123_run (F : Nat) (l0 : List Int) (n1 : Int) : runS tt (k123_tab F) (k123_LS1 F) [] [] Tryz.f116 (u000 Tryz.f116) 70 [(.ri .i64 l0), (.int .i64 n1)] [] = k123_c _ F l0 n1 (fun r => some ⟨(.bool r), [], []⟩) := by kernel_rfl
def k123_ent (F : Nat) : Ent := ⟨[], .quiet, fun args mem => match args, mem with
  | [(.ri .i64 l0), (.int .i64 n1)], [] => some ((k123_p F l0 n1).isSome, ⟨(.bool ((k123_p F l0 n1).getD default)), [], []⟩)
  | _, _ => none⟩
theorem k123_fok : FunOK Tryz.prog 116 := funOK Tryz.func116 (by kernel_rfl) rfl
theorem k123_meets (F : Nat) : Meets Tryz.prog 116 (k123_ent F) := by
  refine u002 mixed ttok deep (k123_tabok F) Tryz.func116 (u009 rfl) (k123_lsok1 F) fun args mem hfit ret h => ?_
  clear hfit
  simp only [k123_ent] at h
  split at h
  · rename_i l0 n1
    simp only [Option.some.injEq, Prod.mk.injEq] at h
    obtain ⟨hc, rfl⟩ := h
    exact ⟨[], [], 70, _, (k123_run F l0 n1).trans ((k123_cp _ F l0 n1 _).trans (u014 hc _)), rfl, rfl, rfl⟩
  · cases h
noncomputable def k94_tab (F : Nat) : Tab := []
theorem k94_tabok (F : Nat) : TabOK Tryz.prog (k94_tab F) := u015
noncomputable def k94_LS0 (F : Nat) : LT := []
theorem k94_lsok0 (F : Nat) : u011 Tryz.prog (k94_LS0 F) (u000 Tryz.f117) := u005
theorem k94_keys : u059 (u000 Tryz.f117) = true := by kernel_rfl
def k94_st7 (w8 : List Int) (vf : Nat) (yg : Int) (ja : List (List Int)) (n7 : Int) (k8 : Int) (vw : List Int) : St := ⟨u018 44 0 [0, 3, 4, 5, 6, 7] [(.ri .i64 w8), (.sl 0 0 vf), (.int .i64 yg), (.ptr 1 0 0 4), (.int .i64 n7), (.int .i64 k8)], [(.vec 24 (.rr 4 ja)), (.var 4 (.ri .i64 vw))], 0, []⟩
def k94_o7 (w8 : List Int) (vf : Nat) (yg : Int) (ja : List (List Int)) (x : Int × List Int) : GT := (.out (.exit 2 ⟨u018 44 0 [0, 3, 4, 5, 6] [(.ri .i64 w8), (.sl 0 0 vf), (.int .i64 yg), (.ptr 1 0 0 4), (.int .i64 x.1)], [(.vec 24 (.rr 4 ja)), (.var 4 (.ri .i64 x.2))], 0, []⟩))
def k94_ls7 (F : Nat) : LoopS := ⟨44, [0, 3, 4, 5, 6, 7], [], [0, 3, 4, 5, 6], [], [2], [], [], fun vals mem np killed => match vals, mem, np, killed with
  | [(.ri .i64 w8), (.sl 0 0 vf), (.int .i64 yg), (.ptr 1 0 0 4), (.int .i64 n7), (.int .i64 k8)], [(.vec 24 (.rr 4 ja)), (.var 4 (.ri .i64 vw))], 0, [] => .br (k94_l7 F w8 vf yg ja n7 k8 vw).isSome (k94_o7 w8 vf yg ja ((k94_l7 F w8 vf yg ja n7 k8 vw).getD default)) .fail
  | _, _, _, _ => .fail⟩
theorem k94_step7 (F : Nat) (w8 : List Int) (vf : Nat) (yg : Int) (ja : List (List Int)) (n7 : Int) (k8 : Int) (vw : List Int) {R : Type} (k : Out → Option R) : stepS tt (k94_tab F) (k94_LS0 F) 70 (k94_ls7 F) (u010 7 (u000 Tryz.f117)) (k94_st7 w8 vf yg ja n7 k8 vw) k = k94_s7 F w8 vf yg ja R (n7, k8, vw) (fun s => k (.norm (k94_st7 w8 vf yg ja s.1 s.2.1 s.2.2))) (fun x => (k94_o7 w8 vf yg ja x).run k) := by kernel_rfl
theorem k94_iter7 (F : Nat) (w8 : List Int) (vf : Nat) (yg : Int) (ja : List (List Int)) {R : Type} (k : Out → Option R) : ∀ (n : Nat) (n7 : Int) (k8 : Int) (vw : List Int), iterS tt (k94_tab F) (k94_LS0 F) 70 (k94_ls7 F) (u010 7 (u000 Tryz.f117)) n (k94_st7 w8 vf yg ja n7 k8 vw) k = loopC (k94_s7 F w8 vf yg ja) n (n7, k8, vw) (fun x => (k94_o7 w8 vf yg ja x).run k)
  | 0, n7, k8, vw => rfl
  | n + 1, n7, k8, vw => (u017 tt (k94_tab F) (k94_LS0 F) 70 (k94_ls7 F) (u010 7 (u000 Tryz.f117)) n (k94_st7 w8 vf yg ja n7 k8 vw) k).trans ((k94_step7 F w8 vf yg ja n7 k8 vw (nextK (iterS tt (k94_tab F) (k94_LS0 F) 70 (k94_ls7 F) (u010 7 (u000 Tryz.f117)) n) k)).trans (congrArg (fun kn => k94_s7 F w8 vf yg ja R (n7, k8, vw) kn _) (funext (fun ⟨n7, k8, vw⟩ => k94_iter7 F w8 vf yg ja k n n7 k8 vw))))
theorem k94_lok7 (F : Nat) : u041 Tryz.prog (u010 7 (u000 Tryz.f117)) (k94_ls7 F) := by
  refine u019 mixed ttok deep (k94_tabok F) (u016 (k94_lsok0 F) 7) (fuel := 70) fun R vals mem np killed k x h => ?_
  simp only [k94_ls7] at h
  split at h
  · rename_i w8 vf yg n7 k8 ja vw
    simp only [GT.run] at h
    have hc := (u007 h).1
    replace h := (u007 h).2
    refine ⟨F, (k94_iter7 F w8 vf yg ja k F n7 k8 vw).trans ((u020 (k94_s7_nat F w8 vf yg ja) hc _).trans h)⟩
  · simp only [GT.run] at h
    cases h
noncomputable def k94_LS1 (F : Nat) : LT := (7, k94_ls7 F) :: k94_LS0 F
theorem k94_lsok1 (F : Nat) : u011 Tryz.prog (k94_LS1 F) (u000 Tryz.f117) := u012 k94_keys (k94_lok7 F) (k94_lsok0 F)
def k94_st3 (w8 : List Int) (vf : Nat) (yg : Int) (w6 : List (List Int)) : St := ⟨u018 44 0 [0, 3, 4] [(.ri .i64 w8), (.sl 0 0 vf), (.int .i64 yg)], [(.vec 24 (.rr 4 w6))], 0, []⟩
def k94_o3 (w8 : List Int) (x : Nat × List (List Int)) : GT := (.out (.exit 0 ⟨u018 44 0 [3] [(.sl 0 0 x.1)], [(.vec 24 (.rr 4 x.2))], 0, []⟩))
def k94_ls3 (F : Nat) : LoopS := ⟨44, [0, 3, 4], [], [3], [], [2], [], [], fun vals mem np killed => match vals, mem, np, killed with
  | [(.ri .i64 w8), (.sl 0 0 vf), (.int .i64 yg)], [(.vec 24 (.rr 4 w6))], 0, [] => .br (k94_l3 F w8 vf yg w6).isSome (k94_o3 w8 ((k94_l3 F w8 vf yg w6).getD default)) .fail
  | _, _, _, _ => .fail⟩
theorem k94_step3 (F : Nat) (w8 : List Int) (vf : Nat) (yg : Int) (w6 : List (List Int)) {R : Type} (k : Out → Option R) : stepS tt (k94_tab F) (k94_LS1 F) 70 (k94_ls3 F) (u010 3 (u000 Tryz.f117)) (k94_st3 w8 vf yg w6) k = k94_s3 F w8 R (vf, yg, w6) (fun s => k (.norm (k94_st3 w8 s.1 s.2.1 s.2.2))) (fun x => (k94_o3 w8 x).run k) := by kernel_rfl
theorem k94_iter3 (F : Nat) (w8 : List Int) {R : Type} (k : Out → Option R) : ∀ (n : Nat) (vf : Nat) (yg : Int) (w6 : List (List Int)), iterS tt (k94_tab F) (k94_LS1 F) 70 (k94_ls3 F) (u010 3 (u000 Tryz.f117)) n (k94_st3 w8 vf yg w6) k = loopC (k94_s3 F w8) n (vf, yg, w6) (fun x => (k94_o3 w8 x).run k)
  | 0, vf, yg, w6 => rfl
  | n + 1, vf, yg, w6 => (u017 tt (k94_tab F) (k94_LS1 F) 70 (k94_ls3 F) (u010 3 (u000 Tryz.f117)) n (k94_st3 w8 vf yg w6) k).trans ((k94_step3 F w8 vf yg w6 (nextK (iterS tt (k94_tab F) (k94_LS1 F) 70 (k94_ls3 F) (u010 3 (u000 Tryz.f117)) n) k)).trans (congrArg (fun kn => k94_s3 F w8 R (vf, yg, w6) kn _) (funext (fun ⟨vf, yg, w6⟩ => k94_iter3 F w8 k n vf yg w6))))
theorem k94_lok3 (F : Nat) : u041 Tryz.prog (u010 3 (u000 Tryz.f117)) (k94_ls3 F) := by
  refine u019 mixed ttok deep (k94_tabok F) (u016 (k94_lsok1 F) 3) (fuel := 70) fun R vals mem np killed k x h => ?_
  simp only [k94_ls3] at h
  split at h
  · rename_i w8 vf yg w6
    simp only [GT.run] at h
    have hc := (u007 h).1
    replace h := (u007 h).2
    refine ⟨F, (k94_iter3 F w8 k F vf yg w6).trans ((u020 (k94_s3_nat F w8) hc _).trans h)⟩
  · simp only [GT.run] at h
    cases h
noncomputable def k94_LS2 (F : Nat) : LT := (3, k94_ls3 F) :: k94_LS1 F
theorem k94_lsok2 (F : Nat) : u011 Tryz.prog (k94_LS2 F) (u000 Tryz.f117) := u012 k94_keys (k94_lok3 F) (k94_lsok1 F)
theorem k94_run (F : Nat) (w8 : List Int) : runS tt (k94_tab F) (k94_LS2 F) [] [] Tryz.f117 (u000 Tryz.f117) 70 [(.ri .i64 w8)] [] = k94_c _ F w8 (fun r => some ⟨(.sl 0 0 r.1), [(.vec 24 (.rr 4 r.2))], []⟩) := by kernel_rfl
def k94_ent (F : Nat) : Ent := ⟨[], .fresh, fun args mem => match args, mem with
  | [(.ri .i64 w8)], [] => some ((k94_p F w8).isSome, ⟨(.sl 0 0 ((k94_p F w8).getD default).1), [(.vec 24 (.rr 4 ((k94_p F w8).getD default).2))], []⟩)
  | _, _ => none⟩
theorem k94_fok : FunOK Tryz.prog 117 := funOK Tryz.func117 (by kernel_rfl) rfl
theorem k94_meets (F : Nat) : Meets Tryz.prog 117 (k94_ent F) := by
  refine u002 mixed ttok deep (k94_tabok F) Tryz.func117 (u009 rfl) (k94_lsok2 F) fun args mem hfit ret h => ?_
  clear hfit
  simp only [k94_ent] at h
  split at h
  · rename_i w8
    simp only [Option.some.injEq, Prod.mk.injEq] at h
    obtain ⟨hc, rfl⟩ := h
    exact ⟨[], [], 70, _, (k94_run F w8).trans ((k94_cp _ F w8 _).trans (u014 hc _)), rfl, rfl, rfl⟩
  · cases h
noncomputable def k115_tab (F : Nat) : Tab := []
theorem k115_tabok (F : Nat) : TabOK Tryz.prog (k115_tab F) := u015
noncomputable def k115_LS0 (F : Nat) : LT := []
theorem k115_lsok0 (F : Nat) : u011 Tryz.prog (k115_LS0 F) (u000 Tryz.f140) := u005
theorem k115_keys : u059 (u000 Tryz.f140) = true := by kernel_rfl
def k115_st2 (a7 : List Int) (b8 : List Int) (k6 : Int) : St := ⟨u018 24 0 [2, 3, 5] [(.ptr 0 0 0 4), (.ptr 1 0 0 4), (.int .i64 k6)], [(.var 4 (.ri .i64 a7)), (.var 4 (.ri .i64 b8))], 0, []⟩
def k115_o2 (a7 : List Int) (b8 : List Int) (x : Bool × Bool) : GT := (.br x.1 (.out (.ret ⟨u018 24 0 [4] [(.bool x.2)], [], 0, []⟩)) (.out (.exit 0 ⟨u018 24 0 [] [], [], 0, []⟩)))
def k115_ls2 (F : Nat) : LoopS := ⟨24, [2, 3, 5], [], [], [], [4], [], [], fun vals mem np killed => match vals, mem, np, killed with
  | [(.ptr 0 0 0 4), (.ptr 1 0 0 4), (.int .i64 k6)], [(.var 4 (.ri .i64 a7)), (.var 4 (.ri .i64 b8))], 0, [] => .br (k115_l2 F a7 b8 k6).isSome (k115_o2 a7 b8 ((k115_l2 F a7 b8 k6).getD default)) .fail
  | _, _, _, _ => .fail⟩
theorem k115_step2 (F : Nat) (a7 : List Int) (b8 : List Int) (k6 : Int) {R : Type} (k : Out → Option R) : stepS tt (k115_tab F) (k115_LS0 F) 70 (k115_ls2 F) (u010 2 (u000 Tryz.f140)) (k115_st2 a7 b8 k6) k = k115_s2 F a7 b8 R k6 (fun s => k (.norm (k115_st2 a7 b8 s))) (fun x => (k115_o2 a7 b8 x).run k) := by kernel_rfl
theorem k115_iter2 (F : Nat) (a7 : List Int) (b8 : List Int) {R : Type} (k : Out → Option R) : ∀ (n : Nat) (k6 : Int), iterS tt (k115_tab F) (k115_LS0 F) 70 (k115_ls2 F) (u010 2 (u000 Tryz.f140)) n (k115_st2 a7 b8 k6) k = loopC (k115_s2 F a7 b8) n k6 (fun x => (k115_o2 a7 b8 x).run k)
  | 0, k6 => rfl
  | n + 1, k6 => (u017 tt (k115_tab F) (k115_LS0 F) 70 (k115_ls2 F) (u010 2 (u000 Tryz.f140)) n (k115_st2 a7 b8 k6) k).trans ((k115_step2 F a7 b8 k6 (nextK (iterS tt (k115_tab F) (k115_LS0 F) 70 (k115_ls2 F) (u010 2 (u000 Tryz.f140)) n) k)).trans (congrArg (fun kn => k115_s2 F a7 b8 R k6 kn _) (funext (fun k6 => k115_iter2 F a7 b8 k n k6))))
theorem k115_lok2 (F : Nat) : u041 Tryz.prog (u010 2 (u000 Tryz.f140)) (k115_ls2 F) := by
  refine u019 mixed ttok deep (k115_tabok F) (u016 (k115_lsok0 F) 2) (fuel := 70) fun R vals mem np killed k x h => ?_
  simp only [k115_ls2] at h
  split at h
  · rename_i k6 a7 b8
    simp only [GT.run] at h
    have hc := (u007 h).1
    replace h := (u007 h).2
    refine ⟨F, (k115_iter2 F a7 b8 k F k6).trans ((u020 (k115_s2_nat F a7 b8) hc _).trans h)⟩
  · simp only [GT.run] at h
    cases h
noncomputable def k115_LS1 (F : Nat) : LT := (2, k115_ls2 F) :: k115_LS0 F
theorem k115_lsok1 (F : Nat) : u011 Tryz.prog (k115_LS1 F) (u000 Tryz.f140) := u012 k115_keys (k115_lok2 F) (k115_lsok0 F)
theorem k115_run (F : Nat) (a0 : List Int) (b1 : List Int) : runS tt (k115_tab F) (k115_LS1 F) [] [] Tryz.f140 (u000 Tryz.f140) 70 [(.ints 4 a0), (.ints 4 b1)] [] = k115_c _ F a0 b1 (fun r => some ⟨(.bool r), [], []⟩) := by kernel_rfl
def k115_ent (F : Nat) : Ent := ⟨[], .quiet, fun args mem => match args, mem with
  | [(.ints 4 a0), (.ints 4 b1)], [] => some ((k115_p F a0 b1).isSome, ⟨(.bool ((k115_p F a0 b1).getD default)), [], []⟩)
  | _, _ => none⟩
theorem k115_fok : FunOK Tryz.prog 140 := funOK Tryz.func140 (by kernel_rfl) rfl
theorem k115_meets (F : Nat) : Meets Tryz.prog 140 (k115_ent F) := by
  refine u002 mixed ttok deep (k115_tabok F) Tryz.func140 (u009 rfl) (k115_lsok1 F) fun args mem hfit ret h => ?_
  clear hfit
  simp only [k115_ent] at h
  split at h
  · rename_i a0 b1
    simp only [Option.some.injEq, Prod.mk.injEq] at h
    obtain ⟨hc, rfl⟩ := h
    exact ⟨[], [], 70, _, (k115_run F a0 b1).trans ((k115_cp _ F a0 b1 _).trans (u014 hc _)), rfl, rfl, rfl⟩
  · cases h
noncomputable def k103_tab (F : Nat) : Tab := [(140, (k115_ent F))]
theorem k103_tabok (F : Nat) : TabOK Tryz.prog (k103_tab F) := (u001 (k115_meets F) k115_fok u015)
noncomputable def k103_LS0 (F : Nat) : LT := []
theorem k103_lsok0 (F : Nat) : u011 Tryz.prog (k103_LS0 F) (u000 Tryz.f135) := u005
theorem k103_keys : u059 (u000 Tryz.f135) = true := by kernel_rfl
def k103_st2 (j9 : List (List Int)) (ve : List Int) (n4 : Int) : St := ⟨u018 21 0 [0, 3, 5] [(.rr 4 j9), (.ptr 0 0 0 4), (.int .i64 n4)], [(.var 4 (.ri .i64 ve))], 0, []⟩
def k103_o2 (j9 : List (List Int)) (ve : List Int) (x : Int) : GT := (.out (.exit 0 ⟨u018 21 0 [5] [(.int .i64 x)], [], 0, []⟩))
def k103_ls2 (F : Nat) : LoopS := ⟨21, [0, 3, 5], [], [5], [], [4], [], [], fun vals mem np killed => match vals, mem, np, killed with
  | [(.rr 4 j9), (.ptr 0 0 0 4), (.int .i64 n4)], [(.var 4 (.ri .i64 ve))], 0, [] => .br (k103_l2 F j9 ve n4).isSome (k103_o2 j9 ve ((k103_l2 F j9 ve n4).getD default)) .fail
  | _, _, _, _ => .fail⟩
theorem k103_step2 (F : Nat) (j9 : List (List Int)) (ve : List Int) (n4 : Int) {R : Type} (k : Out → Option R) : stepS tt (k103_tab F) (k103_LS0 F) 70 (k103_ls2 F) (u010 2 (u000 Tryz.f135)) (k103_st2 j9 ve n4) k = k103_s2 F j9 ve R n4 (fun s => k (.norm (k103_st2 j9 ve s))) (fun x => (k103_o2 j9 ve x).run k) := by kernel_rfl
theorem k103_iter2 (F : Nat) (j9 : List (List Int)) (ve : List Int) {R : Type} (k : Out → Option R) : ∀ (n : Nat) (n4 : Int), iterS tt (k103_tab F) (k103_LS0 F) 70 (k103_ls2 F) (u010 2 (u000 Tryz.f135)) n (k103_st2 j9 ve n4) k = loopC (k103_s2 F j9 ve) n n4 (fun x => (k103_o2 j9 ve x).run k)
  | 0, n4 => rfl
  | n + 1, n4 => (u017 tt (k103_tab F) (k103_LS0 F) 70 (k103_ls2 F) (u010 2 (u000 Tryz.f135)) n (k103_st2 j9 ve n4) k).trans ((k103_step2 F j9 ve n4 (nextK (iterS tt (k103_tab F) (k103_LS0 F) 70 (k103_ls2 F) (u010 2 (u000 Tryz.f135)) n) k)).trans (congrArg (fun kn => k103_s2 F j9 ve R n4 kn _) (funext (fun n4 => k103_iter2 F j9 ve k n n4))))
theorem k103_lok2 (F : Nat) : u041 Tryz.prog (u010 2 (u000 Tryz.f135)) (k103_ls2 F) := by
  refine u019 mixed ttok deep (k103_tabok F) (u016 (k103_lsok0 F) 2) (fuel := 70) fun R vals mem np killed k x h => ?_
  simp only [k103_ls2] at h
  split at h
  · rename_i j9 n4 ve
    simp only [GT.run] at h
    have hc := (u007 h).1
    replace h := (u007 h).2
    refine ⟨F, (k103_iter2 F j9 ve k F n4).trans ((u020 (k103_s2_nat F j9 ve) hc _).trans h)⟩
  · simp only [GT.run] at h
    cases h
noncomputable def k103_LS1 (F : Nat) : LT := (2, k103_ls2 F) :: k103_LS0 F
theorem k103_lsok1 (F : Nat) : u011 Tryz.prog (k103_LS1 F) (u000 Tryz.f135) := u012 k103_keys (k103_lok2 F) (k103_lsok0 F)
theorem k103_run (F : Nat) (j9 : List (List Int)) (wh : List Int) : runS tt (k103_tab F) (k103_LS1 F) [] [] Tryz.f135 (u000 Tryz.f135) 70 [(.rr 4 j9), (.ints 4 wh)] [] = k103_c _ F j9 wh (fun r => some ⟨(.int .i64 r), [], []⟩) := by kernel_rfl
def k103_ent (F : Nat) : Ent := ⟨[], .quiet, fun args mem => match args, mem with
  | [(.rr 4 j9), (.ints 4 wh)], [] => some ((k103_p F j9 wh).isSome, ⟨(.int .i64 ((k103_p F j9 wh).getD default)), [], []⟩)
  | _, _ => none⟩
theorem k103_fok : FunOK Tryz.prog 135 := funOK Tryz.func135 (by kernel_rfl) rfl
theorem k103_meets (F : Nat) : Meets Tryz.prog 135 (k103_ent F) := by
  refine u002 mixed ttok deep (k103_tabok F) Tryz.func135 (u009 rfl) (k103_lsok1 F) fun args mem hfit ret h => ?_
  clear hfit
  simp only [k103_ent] at h
  split at h
  · rename_i j9 wh
    simp only [Option.some.injEq, Prod.mk.injEq] at h
    obtain ⟨hc, rfl⟩ := h
    exact ⟨[], [], 70, _, (k103_run F j9 wh).trans ((k103_cp _ F j9 wh _).trans (u014 hc _)), rfl, rfl, rfl⟩
  · cases h
noncomputable def k126_tab (F : Nat) : Tab := [(135, (k103_ent F))]
theorem k126_tabok (F : Nat) : TabOK Tryz.prog (k126_tab F) := (u001 (k103_meets F) k103_fok u015)
noncomputable def k126_LS0 (F : Nat) : LT := []
theorem k126_lsok0 (F : Nat) : u011 Tryz.prog (k126_LS0 F) (u000 Tryz.f118) := u005
theorem k126_run (F : Nat) (j9 : List (List Int)) (wh : List Int) : runS tt (k126_tab F) (k126_LS0 F) [⟨4, 0, (.tup [])⟩] [] Tryz.f118 (u000 Tryz.f118) 70 [(.rr 4 j9), (.ints 4 wh)] [] = k126_c _ F j9 wh (fun r => some ⟨(.rr 4 r), [], []⟩) := by kernel_rfl
def k126_ent (F : Nat) : Ent := ⟨[], .quiet, fun args mem => match args, mem with
  | [(.rr 4 j9), (.ints 4 wh)], [] => some ((k126_p F j9 wh).isSome, ⟨(.rr 4 ((k126_p F j9 wh).getD default)), [], []⟩)
  | _, _ => none⟩
theorem k126_fok : FunOK Tryz.prog 118 := funOK Tryz.func118 (by kernel_rfl) rfl
theorem k126_meets (F : Nat) : Meets Tryz.prog 118 (k126_ent F) := by
  refine u002 mixed ttok deep (k126_tabok F) Tryz.func118 (u009 rfl) (k126_lsok0 F) fun args mem hfit ret h => ?_
  clear hfit
  simp only [k126_ent] at h
  split at h
  · rename_i j9 wh
    simp only [Option.some.injEq, Prod.mk.injEq] at h
    obtain ⟨hc, rfl⟩ := h
    exact ⟨[⟨4, 0, (.tup [])⟩], [], 70, _, (k126_run F j9 wh).trans ((k126_cp _ F j9 wh _).trans (u014 hc _)), rfl, rfl, rfl⟩
  · cases h
noncomputable def k93_tab (F : Nat) : Tab := [(116, (k123_ent F)), (117, (k94_ent F)), (96, (k125_ent F)), (118, (k126_ent F))]
theorem k93_tabok (F : Nat) : TabOK Tryz.prog (k93_tab F) := (u001 (k123_meets F) k123_fok (u001 (k94_meets F) k94_fok (u001 (k125_meets F) k125_fok (u001 (k126_meets F) k126_fok u015))))
noncomputable def k93_LS0 (F : Nat) : LT := []
theorem k93_lsok0 (F : Nat) : u011 Tryz.prog (k93_LS0 F) (u000 Tryz.f92) := u005
theorem k93_keys : u059 (u000 Tryz.f92) = true := by kernel_rfl
def k93_st7 (g8 : List (List Int)) (g7 : Int) (wc : List Int) (k7 : Int) (vj : List Int) : St := ⟨u018 82 0 [1, 3, 4, 5, 6] [(.ptr 0 0 0 4), (.rr 4 g8), (.int .i64 g7), (.sl 1 0 (List.length vj)), (.int .i64 k7)], [(.var 4 (.ri .i64 wc)), (.vec 3 (.ri .i64 vj))], 0, []⟩
def k93_o7 (g8 : List (List Int)) (g7 : Int) (wc : List Int) (x : List Int) : GT := (.out (.exit 2 ⟨u018 82 0 [1, 3, 4, 5] [(.ptr 0 0 0 4), (.rr 4 g8), (.int .i64 g7), (.sl 1 0 (List.length x))], [(.var 4 (.ri .i64 wc)), (.vec 3 (.ri .i64 x))], 0, []⟩))
def k93_ls7 (F : Nat) : LoopS := ⟨82, [1, 3, 4, 5, 6], [], [1, 3, 4, 5], [], [2], [], [], fun vals mem np killed => match vals, mem, np, killed with
  | [(.ptr 0 0 0 4), (.rr 4 g8), (.int .i64 g7), (.sl 1 0 q_tiles6), (.int .i64 k7)], [(.var 4 (.ri .i64 wc)), (.vec 3 (.ri .i64 vj))], 0, [] => .br ((Nat.beq q_tiles6 (List.length vj)) && (k93_l7 F g8 g7 wc k7 vj).isSome) (k93_o7 g8 g7 wc ((k93_l7 F g8 g7 wc k7 vj).getD default)) .fail
  | _, _, _, _ => .fail⟩
theorem k93_step7 (F : Nat) (g8 : List (List Int)) (g7 : Int) (wc : List Int) (k7 : Int) (vj : List Int) {R : Type} (k : Out → Option R) : stepS tt (k93_tab F) (k93_LS0 F) 70 (k93_ls7 F) (u010 7 (u000 Tryz.f92)) (k93_st7 g8 g7 wc k7 vj) k = k93_s7 F g8 g7 wc R (k7, vj) (fun s => k (.norm (k93_st7 g8 g7 wc s.1 s.2))) (fun x => (k93_o7 g8 g7 wc x).run k) := by kernel_rfl
theorem k93_iter7 (F : Nat) (g8 : List (List Int)) (g7 : Int) (wc : List Int) {R : Type} (k : Out → Option R) : ∀ (n : Nat) (k7 : Int) (vj : List Int), iterS tt (k93_tab F) (k93_LS0 F) 70 (k93_ls7 F) (u010 7 (u000 Tryz.f92)) n (k93_st7 g8 g7 wc k7 vj) k = loopC (k93_s7 F g8 g7 wc) n (k7, vj) (fun x => (k93_o7 g8 g7 wc x).run k)
  | 0, k7, vj => rfl
  | n + 1, k7, vj => (u017 tt (k93_tab F) (k93_LS0 F) 70 (k93_ls7 F) (u010 7 (u000 Tryz.f92)) n (k93_st7 g8 g7 wc k7 vj) k).trans ((k93_step7 F g8 g7 wc k7 vj (nextK (iterS tt (k93_tab F) (k93_LS0 F) 70 (k93_ls7 F) (u010 7 (u000 Tryz.f92)) n) k)).trans (congrArg (fun kn => k93_s7 F g8 g7 wc R (k7, vj) kn _) (funext (fun ⟨k7, vj⟩ => k93_iter7 F g8 g7 wc k n k7 vj))))
theorem k93_lok7 (F : Nat) : u041 Tryz.prog (u010 7 (u000 Tryz.f92)) (k93_ls7 F) := by
  refine u019 mixed ttok deep (k93_tabok F) (u016 (k93_lsok0 F) 7) (fuel := 70) fun R vals mem np killed k x h => ?_
  simp only [k93_ls7] at h
  split at h
  · rename_i g8 g7 q_tiles6 k7 wc vj
    simp only [GT.run] at h
    have hc := (u007 h).1
    replace h := (u007 h).2
    have hg := (u013 hc).1
    replace hc := (u013 hc).2
    obtain rfl := u032 hg
    refine ⟨F, (k93_iter7 F g8 g7 wc k F k7 vj).trans ((u020 (k93_s7_nat F g8 g7 wc) hc _).trans h)⟩
  · simp only [GT.run] at h
    cases h
noncomputable def k93_LS1 (F : Nat) : LT := (7, k93_ls7 F) :: k93_LS0 F
theorem k93_lsok1 (F : Nat) : u011 Tryz.prog (k93_LS1 F) (u000 Tryz.f92) := u012 k93_keys (k93_lok7 F) (k93_lsok0 F)
def k93_st15 (g7 : Int) (yk : Nat) (wc : List Int) (ju : List (List Int)) (g8 : List (List Int)) (i7 : Int) : St := ⟨u018 82 0 [1, 3, 4, 7, 8] [(.ptr 0 0 0 4), (.rr 4 g8), (.int .i64 g7), (.sl 1 0 yk), (.int .i64 i7)], [(.var 4 (.ri .i64 wc)), (.vec 24 (.rr 4 ju))], 0, []⟩
def k93_o15 (g7 : Int) (yk : Nat) (wc : List Int) (ju : List (List Int)) (x : List (List Int)) : GT := (.out (.exit 4 ⟨u018 82 0 [1, 3, 4] [(.ptr 0 0 0 4), (.rr 4 x), (.int .i64 g7)], [(.var 4 (.ri .i64 wc))], 0, []⟩))
def k93_ls15 (F : Nat) : LoopS := ⟨82, [1, 3, 4, 7, 8], [], [1, 3, 4], [], [2], [], [], fun vals mem np killed => match vals, mem, np, killed with
  | [(.ptr 0 0 0 4), (.rr 4 g8), (.int .i64 g7), (.sl 1 0 yk), (.int .i64 i7)], [(.var 4 (.ri .i64 wc)), (.vec 24 (.rr 4 ju))], 0, [] => .br (k93_l15 F g7 yk wc ju g8 i7).isSome (k93_o15 g7 yk wc ju ((k93_l15 F g7 yk wc ju g8 i7).getD default)) .fail
  | _, _, _, _ => .fail⟩
theorem k93_step15 (F : Nat) (g7 : Int) (yk : Nat) (wc : List Int) (ju : List (List Int)) (g8 : List (List Int)) (i7 : Int) {R : Type} (k : Out → Option R) : stepS tt (k93_tab F) (k93_LS1 F) 70 (k93_ls15 F) (u010 15 (u000 Tryz.f92)) (k93_st15 g7 yk wc ju g8 i7) k = k93_s15 F g7 yk wc ju R (g8, i7) (fun s => k (.norm (k93_st15 g7 yk wc ju s.1 s.2))) (fun x => (k93_o15 g7 yk wc ju x).run k) := by kernel_rfl
theorem k93_iter15 (F : Nat) (g7 : Int) (yk : Nat) (wc : List Int) (ju : List (List Int)) {R : Type} (k : Out → Option R) : ∀ (n : Nat) (g8 : List (List Int)) (i7 : Int), iterS tt (k93_tab F) (k93_LS1 F) 70 (k93_ls15 F) (u010 15 (u000 Tryz.f92)) n (k93_st15 g7 yk wc ju g8 i7) k = loopC (k93_s15 F g7 yk wc ju) n (g8, i7) (fun x => (k93_o15 g7 yk wc ju x).run k)
  | 0, g8, i7 => rfl
  | n + 1, g8, i7 => (u017 tt (k93_tab F) (k93_LS1 F) 70 (k93_ls15 F) (u010 15 (u000 Tryz.f92)) n (k93_st15 g7 yk wc ju g8 i7) k).trans ((k93_step15 F g7 yk wc ju g8 i7 (nextK (iterS tt (k93_tab F) (k93_LS1 F) 70 (k93_ls15 F) (u010 15 (u000 Tryz.f92)) n) k)).trans (congrArg (fun kn => k93_s15 F g7 yk wc ju R (g8, i7) kn _) (funext (fun ⟨g8, i7⟩ => k93_iter15 F g7 yk wc ju k n g8 i7))))
theorem k93_lok15 (F : Nat) : u041 Tryz.prog (u010 15 (u000 Tryz.f92)) (k93_ls15 F) := by
  refine u019 mixed ttok deep (k93_tabok F) (u016 (k93_lsok1 F) 15) (fuel := 70) fun R vals mem np killed k x h => ?_
  simp only [k93_ls15] at h
  split at h
  · rename_i g8 g7 yk i7 wc ju
    simp only [GT.run] at h
    have hc := (u007 h).1
    replace h := (u007 h).2
    refine ⟨F, (k93_iter15 F g7 yk wc ju k F g8 i7).trans ((u020 (k93_s15_nat F g7 yk wc ju) hc _).trans h)⟩
  · simp only [GT.run] at h
    cases h
noncomputable def k93_LS2 (F : Nat) : LT := (15, k93_ls15 F) :: k93_LS1 F
theorem k93_lsok2 (F : Nat) : u011 Tryz.prog (k93_LS2 F) (u000 Tryz.f92) := u012 k93_keys (k93_lok15 F) (k93_lsok1 F)
def k93_st3 (ve : List Int) (g8 : List (List Int)) (g7 : Int) : St := ⟨u018 82 0 [1, 3, 4] [(.ptr 0 0 0 4), (.rr 4 g8), (.int .i64 g7)], [(.var 4 (.ri .i64 ve))], 0, []⟩
def k93_o3 (ve : List Int) (x : List (List Int)) : GT := (.out (.exit 0 ⟨u018 82 0 [3] [(.rr 4 x)], [], 0, []⟩))
def k93_ls3 (F : Nat) : LoopS := ⟨82, [1, 3, 4], [⟨3, 0, (.tup [])⟩], [3], [], [2], [], [], fun vals mem np killed => match vals, mem, np, killed with
  | [(.ptr 0 0 0 4), (.rr 4 g8), (.int .i64 g7)], [(.var 4 (.ri .i64 ve))], 0, [] => .br (k93_l3 F ve g8 g7).isSome (k93_o3 ve ((k93_l3 F ve g8 g7).getD default)) .fail
  | _, _, _, _ => .fail⟩
theorem k93_step3 (F : Nat) (ve : List Int) (g8 : List (List Int)) (g7 : Int) {R : Type} (k : Out → Option R) : stepS tt (k93_tab F) (k93_LS2 F) 70 (k93_ls3 F) (u010 3 (u000 Tryz.f92)) (k93_st3 ve g8 g7) k = k93_s3 F ve R (g8, g7) (fun s => k (.norm (k93_st3 ve s.1 s.2))) (fun x => (k93_o3 ve x).run k) := by kernel_rfl
theorem k93_iter3 (F : Nat) (ve : List Int) {R : Type} (k : Out → Option R) : ∀ (n : Nat) (g8 : List (List Int)) (g7 : Int), iterS tt (k93_tab F) (k93_LS2 F) 70 (k93_ls3 F) (u010 3 (u000 Tryz.f92)) n (k93_st3 ve g8 g7) k = loopC (k93_s3 F ve) n (g8, g7) (fun x => (k93_o3 ve x).run k)
  | 0, g8, g7 => rfl
  | n + 1, g8, g7 => (u017 tt (k93_tab F) (k93_LS2 F) 70 (k93_ls3 F) (u010 3 (u000 Tryz.f92)) n (k93_st3 ve g8 g7) k).trans ((k93_step3 F ve g8 g7 (nextK (iterS tt (k93_tab F) (k93_LS2 F) 70 (k93_ls3 F) (u010 3 (u000 Tryz.f92)) n) k)).trans (congrArg (fun kn => k93_s3 F ve R (g8, g7) kn _) (funext (fun ⟨g8, g7⟩ => k93_iter3 F ve k n g8 g7))))
theorem k93_lok3 (F : Nat) : u041 Tryz.prog (u010 3 (u000 Tryz.f92)) (k93_ls3 F) := by
  refine u019 mixed ttok deep (k93_tabok F) (u016 (k93_lsok2 F) 3) (fuel := 70) fun R vals mem np killed k x h => ?_
  simp only [k93_ls3] at h
  split at h
  · rename_i g8 g7 ve
    simp only [GT.run] at h
    have hc := (u007 h).1
    replace h := (u007 h).2
    refine ⟨F, (k93_iter3 F ve k F g8 g7).trans ((u020 (k93_s3_nat F ve) hc _).trans h)⟩
  · simp only [GT.run] at h
    cases h
noncomputable def k93_LS3 (F : Nat) : LT := (3, k93_ls3 F) :: k93_LS2 F
theorem k93_lsok3 (F : Nat) : u011 Tryz.prog (k93_LS3 F) (u000 Tryz.f92) := u012 k93_keys (k93_lok3 F) (k93_lsok2 F)
theorem k93_run (F : Nat) (w4 : List Int) : runS tt (k93_tab F) (k93_LS3 F) [] [] Tryz.f92 (u000 Tryz.f92) 70 [(.ints 4 w4)] [] = k93_c _ F w4 (fun r => some ⟨(.rr 4 r), [], []⟩) := by kernel_rfl
def k93_ent (F : Nat) : Ent := ⟨[], .quiet, fun args mem => match args, mem with
  | [(.ints 4 w4)], [] => some ((k93_p F w4).isSome, ⟨(.rr 4 ((k93_p F w4).getD default)), [], []⟩)
  | _, _ => none⟩
theorem k93_fok : FunOK Tryz.prog 92 := funOK Tryz.func92 (by kernel_rfl) rfl
theorem k93_meets (F : Nat) : Meets Tryz.prog 92 (k93_ent F) := by
  refine u002 mixed ttok deep (k93_tabok F) Tryz.func92 (u009 rfl) (k93_lsok3 F) fun args mem hfit ret h => ?_
  clear hfit
  simp only [k93_ent] at h
  split at h
  · rename_i w4
    simp only [Option.some.injEq, Prod.mk.injEq] at h
    obtain ⟨hc, rfl⟩ := h
    exact ⟨[], [], 70, _, (k93_run F w4).trans ((k93_cp _ F w4 _).trans (u014 hc _)), rfl, rfl, rfl⟩
  · cases h
noncomputable def k105_tab (F : Nat) : Tab := [(93, (k74_ent F)), (92, (k93_ent F))]
theorem k105_tabok (F : Nat) : TabOK Tryz.prog (k105_tab F) := (u001 (k74_meets F) k74_fok (u001 (k93_meets F) k93_fok u015))
noncomputable def k105_LS0 (F : Nat) : LT := []
theorem k105_lsok0 (F : Nat) : u011 Tryz.prog (k105_LS0 F) (u000 Tryz.f68) := u005
theorem k105_run (F : Nat) (b0 : List Int) (d1 : Int) : runS tt (k105_tab F) (k105_LS0 F) [] [] Tryz.f68 (u000 Tryz.f68) 70 [(.ints 16 b0), (.int .i64 d1)] [] = k105_c _ F b0 d1 (fun r => some ⟨(.agg [(.rr 4 r.1), (.rr 4 r.2.1), (.rr 4 r.2.2.1), (.rr 4 r.2.2.2)]), [], []⟩) := by kernel_rfl
def k105_ent (F : Nat) : Ent := ⟨[], .quiet, fun args mem => match args, mem with
  | [(.ints 16 b0), (.int .i64 d1)], [] => some ((k105_p F b0 d1).isSome, ⟨(.agg [(.rr 4 ((k105_p F b0 d1).getD default).1), (.rr 4 ((k105_p F b0 d1).getD default).2.1), (.rr 4 ((k105_p F b0 d1).getD default).2.2.1), (.rr 4 ((k105_p F b0 d1).getD default).2.2.2)]), [], []⟩)
  | _, _ => none⟩
theorem k105_fok : FunOK Tryz.prog 68 := funOK Tryz.func68 (by kernel_rfl) rfl
theorem k105_meets (F : Nat) : Meets Tryz.prog 68 (k105_ent F) := by
  refine u002 mixed ttok deep (k105_tabok F) Tryz.func68 (u009 rfl) (k105_lsok0 F) fun args mem hfit ret h => ?_
  clear hfit
  simp only [k105_ent] at h
  split at h
  · rename_i b0 d1
    simp only [Option.some.injEq, Prod.mk.injEq] at h
    obtain ⟨hc, rfl⟩ := h
    exact ⟨[], [], 70, _, (k105_run F b0 d1).trans ((k105_cp _ F b0 d1 _).trans (u014 hc _)), rfl, rfl, rfl⟩
  · cases h
noncomputable def k107_tab (F : Nat) : Tab := [(75, (k101_ent F))]
theorem k107_tabok (F : Nat) : TabOK Tryz.prog (k107_tab F) := (u001 (k101_meets F) k101_fok u015)
noncomputable def k107_LS0 (F : Nat) : LT := []
theorem k107_lsok0 (F : Nat) : u011 Tryz.prog (k107_LS0 F) (u000 Tryz.f69) := u005
theorem k107_run (F : Nat) (b0 : List Int) (d1 : Int) : runS tt (k107_tab F) (k107_LS0 F) [] [] Tryz.f69 (u000 Tryz.f69) 70 [(.ints 16 b0), (.int .i64 d1)] [] = k107_c _ F b0 d1 (fun r => some ⟨(.bool r), [], []⟩) := by kernel_rfl
def k107_ent (F : Nat) : Ent := ⟨[], .quiet, fun args mem => match args, mem with
  | [(.ints 16 b0), (.int .i64 d1)], [] => some ((k107_p F b0 d1).isSome, ⟨(.bool ((k107_p F b0 d1).getD default)), [], []⟩)
  | _, _ => none⟩
theorem k107_fok : FunOK Tryz.prog 69 := funOK Tryz.func69 (by kernel_rfl) rfl
theorem k107_meets (F : Nat) : Meets Tryz.prog 69 (k107_ent F) := by
  refine u002 mixed ttok deep (k107_tabok F) Tryz.func69 (u009 rfl) (k107_lsok0 F) fun args mem hfit ret h => ?_
  clear hfit
  simp only [k107_ent] at h
  split at h
  · rename_i b0 d1
    simp only [Option.some.injEq, Prod.mk.injEq] at h
    obtain ⟨hc, rfl⟩ := h
    exact ⟨[], [], 70, _, (k107_run F b0 d1).trans ((k107_cp _ F b0 d1 _).trans (u014 hc _)), rfl, rfl, rfl⟩
  · cases h
noncomputable def k104_tab (F : Nat) : Tab := [(68, (k105_ent F)), (69, (k107_ent F))]
theorem k104_tabok (F : Nat) : TabOK Tryz.prog (k104_tab F) := (u001 (k105_meets F) k105_fok (u001 (k107_meets F) k107_fok u015))
noncomputable def k104_LS0 (F : Nat) : LT := []
theorem k104_lsok0 (F : Nat) : u011 Tryz.prog (k104_LS0 F) (u000 Tryz.f39) := u005
theorem k104_run (F : Nat) (b0 : List Int) (d1 : Int) : runS tt (k104_tab F) (k104_LS0 F) [] [] Tryz.f39 (u000 Tryz.f39) 70 [(.ints 16 b0), (.int .i64 d1)] [] = k104_c _ F b0 d1 (fun r => some ⟨(.int .i64 r), [], []⟩) := by kernel_rfl
def k104_ent (F : Nat) : Ent := ⟨[], .quiet, fun args mem => match args, mem with
  | [(.ints 16 b0), (.int .i64 d1)], [] => some ((k104_p F b0 d1).isSome, ⟨(.int .i64 ((k104_p F b0 d1).getD default)), [], []⟩)
  | _, _ => none⟩
theorem k104_fok : FunOK Tryz.prog 39 := funOK Tryz.func39 (by kernel_rfl) rfl
theorem k104_meets (F : Nat) : Meets Tryz.prog 39 (k104_ent F) := by
  refine u002 mixed ttok deep (k104_tabok F) Tryz.func39 (u009 rfl) (k104_lsok0 F) fun args mem hfit ret h => ?_
  clear hfit
  simp only [k104_ent] at h
  split at h
  · rename_i b0 d1
    simp only [Option.some.injEq, Prod.mk.injEq] at h
    obtain ⟨hc, rfl⟩ := h
    exact ⟨[], [], 70, _, (k104_run F b0 d1).trans ((k104_cp _ F b0 d1 _).trans (u014 hc _)), rfl, rfl, rfl⟩
  · cases h
noncomputable def k127_tab (F : Nat) : Tab := [(68, (k105_ent F)), (71, (k116_ent F))]
theorem k127_tabok (F : Nat) : TabOK Tryz.prog (k127_tab F) := (u001 (k105_meets F) k105_fok (u001 (k116_meets F) k116_fok u015))
noncomputable def k127_LS0 (F : Nat) : LT := []
theorem k127_lsok0 (F : Nat) : u011 Tryz.prog (k127_LS0 F) (u000 Tryz.f41) := u005
theorem k127_keys : u059 (u000 Tryz.f41) = true := by kernel_rfl
def k127_st10 (d0 : Int) (yn : Nat) (i6 : Int) (n9 : Int) (jd : List (List Int)) (gd : List (List Int)) (wd : List (List Int)) (jn : List (List Int)) (j8 : List (List Int)) (k10 : Int) (gn : List (List Int)) : St := ⟨u018 53 0 [1, 5, 6, 7, 8, 9, 10] [(.int .i64 d0), (.ptr 0 0 0 4), (.sl 1 0 yn), (.int .i64 i6), (.sl 2 0 (List.length gn)), (.int .i64 n9), (.int .i64 k10)], [(.var 4 (.rv [(.rr 4 jd), (.rr 4 gd), (.rr 4 wd), (.rr 4 jn)])), (.vec 27 (.rr 16 j8)), (.vec 27 (.rr 16 gn))], 0, []⟩
def k127_o10 (d0 : Int) (yn : Nat) (i6 : Int) (n9 : Int) (jd : List (List Int)) (gd : List (List Int)) (wd : List (List Int)) (jn : List (List Int)) (j8 : List (List Int)) (x : List (List Int)) : GT := (.out (.exit 4 ⟨u018 53 0 [1, 5, 6, 7, 8, 9] [(.int .i64 d0), (.ptr 0 0 0 4), (.sl 1 0 yn), (.int .i64 i6), (.sl 2 0 (List.length x)), (.int .i64 n9)], [(.var 4 (.rv [(.rr 4 jd), (.rr 4 gd), (.rr 4 wd), (.rr 4 jn)])), (.vec 27 (.rr 16 j8)), (.vec 27 (.rr 16 x))], 0, []⟩))
def k127_ls10 (F : Nat) : LoopS := ⟨53, [1, 5, 6, 7, 8, 9, 10], [], [1, 5, 6, 7, 8, 9], [], [4], [], [], fun vals mem np killed => match vals, mem, np, killed with
  | [(.int .i64 d0), (.ptr 0 0 0 4), (.sl 1 0 yn), (.int .i64 i6), (.sl 2 0 q_next8), (.int .i64 n9), (.int .i64 k10)], [(.var 4 (.rv [(.rr 4 jd), (.rr 4 gd), (.rr 4 wd), (.rr 4 jn)])), (.vec 27 (.rr 16 j8)), (.vec 27 (.rr 16 gn))], 0, [] => .br ((Nat.beq q_next8 (List.length gn)) && (k127_l10 F d0 yn i6 n9 jd gd wd jn j8 k10 gn).isSome) (k127_o10 d0 yn i6 n9 jd gd wd jn j8 ((k127_l10 F d0 yn i6 n9 jd gd wd jn j8 k10 gn).getD default)) .fail
  | _, _, _, _ => .fail⟩
theorem k127_step10 (F : Nat) (d0 : Int) (yn : Nat) (i6 : Int) (n9 : Int) (jd : List (List Int)) (gd : List (List Int)) (wd : List (List Int)) (jn : List (List Int)) (j8 : List (List Int)) (k10 : Int) (gn : List (List Int)) {R : Type} (k : Out → Option R) : stepS tt (k127_tab F) (k127_LS0 F) 70 (k127_ls10 F) (u010 10 (u000 Tryz.f41)) (k127_st10 d0 yn i6 n9 jd gd wd jn j8 k10 gn) k = k127_s10 F d0 yn i6 n9 jd gd wd jn j8 R (k10, gn) (fun s => k (.norm (k127_st10 d0 yn i6 n9 jd gd wd jn j8 s.1 s.2))) (fun x => (k127_o10 d0 yn i6 n9 jd gd wd jn j8 x).run k) := by kernel_rfl
theorem k127_iter10 (F : Nat) (d0 : Int) (yn : Nat) (i6 : Int) (n9 : Int) (jd : List (List Int)) (gd : List (List Int)) (wd : List (List Int)) (jn : List (List Int)) (j8 : List (List Int)) {R : Type} (k : Out → Option R) : ∀ (n : Nat) (k10 : Int) (gn : List (List Int)), iterS tt (k127_tab F) (k127_LS0 F) 70 (k127_ls10 F) (u010 10 (u000 Tryz.f41)) n (k127_st10 d0 yn i6 n9 jd gd wd jn j8 k10 gn) k = loopC (k127_s10 F d0 yn i6 n9 jd gd wd jn j8) n (k10, gn) (fun x => (k127_o10 d0 yn i6 n9 jd gd wd jn j8 x).run k)
  | 0, k10, gn => rfl
  | n + 1, k10, gn => (u017 tt (k127_tab F) (k127_LS0 F) 70 (k127_ls10 F) (u010 10 (u000 Tryz.f41)) n (k127_st10 d0 yn i6 n9 jd gd wd jn j8 k10 gn) k).trans ((k127_step10 F d0 yn i6 n9 jd gd wd jn j8 k10 gn (nextK (iterS tt (k127_tab F) (k127_LS0 F) 70 (k127_ls10 F) (u010 10 (u000 Tryz.f41)) n) k)).trans (congrArg (fun kn => k127_s10 F d0 yn i6 n9 jd gd wd jn j8 R (k10, gn) kn _) (funext (fun ⟨k10, gn⟩ => k127_iter10 F d0 yn i6 n9 jd gd wd jn j8 k n k10 gn))))
theorem k127_lok10 (F : Nat) : u041 Tryz.prog (u010 10 (u000 Tryz.f41)) (k127_ls10 F) := by
  refine u019 mixed ttok deep (k127_tabok F) (u016 (k127_lsok0 F) 10) (fuel := 70) fun R vals mem np killed k x h => ?_
  simp only [k127_ls10] at h
  split at h
  · rename_i d0 yn i6 q_next8 n9 k10 jd gd wd jn j8 gn
    simp only [GT.run] at h
    have hc := (u007 h).1
    replace h := (u007 h).2
    have hg := (u013 hc).1
    replace hc := (u013 hc).2
    obtain rfl := u032 hg
    refine ⟨F, (k127_iter10 F d0 yn i6 n9 jd gd wd jn j8 k F k10 gn).trans ((u020 (k127_s10_nat F d0 yn i6 n9 jd gd wd jn j8) hc _).trans h)⟩
  · simp only [GT.run] at h
    cases h
noncomputable def k127_LS1 (F : Nat) : LT := (10, k127_ls10 F) :: k127_LS0 F
theorem k127_lsok1 (F : Nat) : u011 Tryz.prog (k127_LS1 F) (u000 Tryz.f41) := u012 k127_keys (k127_lok10 F) (k127_lsok0 F)
def k127_st7 (d0 : Int) (i6 : Int) (jf : List (List Int)) (jd : List (List Int)) (gd : List (List Int)) (wd : List (List Int)) (ge : List (List Int)) (n9 : Int) (wn : List (List Int)) : St := ⟨u018 53 0 [1, 5, 6, 7, 8, 9] [(.int .i64 d0), (.ptr 0 0 0 4), (.sl 1 0 (List.length ge)), (.int .i64 i6), (.sl 2 0 (List.length wn)), (.int .i64 n9)], [(.var 4 (.rv [(.rr 4 jf), (.rr 4 jd), (.rr 4 gd), (.rr 4 wd)])), (.vec 27 (.rr 16 ge)), (.vec 27 (.rr 16 wn))], 0, []⟩
def k127_o7 (d0 : Int) (i6 : Int) (jf : List (List Int)) (jd : List (List Int)) (gd : List (List Int)) (wd : List (List Int)) (ge : List (List Int)) (x : List (List Int)) : GT := (.out (.exit 2 ⟨u018 53 0 [1, 5, 7, 8] [(.int .i64 d0), (.ptr 0 0 0 4), (.int .i64 i6), (.sl 1 0 (List.length x))], [(.var 4 (.rv [(.rr 4 jf), (.rr 4 jd), (.rr 4 gd), (.rr 4 wd)])), (.vec 27 (.rr 16 x))], 0, []⟩))
def k127_ls7 (F : Nat) : LoopS := ⟨53, [1, 5, 6, 7, 8, 9], [], [1, 5, 7, 8], [], [4], [], [], fun vals mem np killed => match vals, mem, np, killed with
  | [(.int .i64 d0), (.ptr 0 0 0 4), (.sl 1 0 q_out5), (.int .i64 i6), (.sl 2 0 q_next8), (.int .i64 n9)], [(.var 4 (.rv [(.rr 4 jf), (.rr 4 jd), (.rr 4 gd), (.rr 4 wd)])), (.vec 27 (.rr 16 ge)), (.vec 27 (.rr 16 wn))], 0, [] => .br ((Nat.beq q_out5 (List.length ge)) && ((Nat.beq q_next8 (List.length wn)) && (k127_l7 F d0 i6 jf jd gd wd ge n9 wn).isSome)) (k127_o7 d0 i6 jf jd gd wd ge ((k127_l7 F d0 i6 jf jd gd wd ge n9 wn).getD default)) .fail
  | _, _, _, _ => .fail⟩
theorem k127_step7 (F : Nat) (d0 : Int) (i6 : Int) (jf : List (List Int)) (jd : List (List Int)) (gd : List (List Int)) (wd : List (List Int)) (ge : List (List Int)) (n9 : Int) (wn : List (List Int)) {R : Type} (k : Out → Option R) : stepS tt (k127_tab F) (k127_LS1 F) 70 (k127_ls7 F) (u010 7 (u000 Tryz.f41)) (k127_st7 d0 i6 jf jd gd wd ge n9 wn) k = k127_s7 F d0 i6 jf jd gd wd ge R (n9, wn) (fun s => k (.norm (k127_st7 d0 i6 jf jd gd wd ge s.1 s.2))) (fun x => (k127_o7 d0 i6 jf jd gd wd ge x).run k) := by kernel_rfl
theorem k127_iter7 (F : Nat) (d0 : Int) (i6 : Int) (jf : List (List Int)) (jd : List (List Int)) (gd : List (List Int)) (wd : List (List Int)) (ge : List (List Int)) {R : Type} (k : Out → Option R) : ∀ (n : Nat) (n9 : Int) (wn : List (List Int)), iterS tt (k127_tab F) (k127_LS1 F) 70 (k127_ls7 F) (u010 7 (u000 Tryz.f41)) n (k127_st7 d0 i6 jf jd gd wd ge n9 wn) k = loopC (k127_s7 F d0 i6 jf jd gd wd ge) n (n9, wn) (fun x => (k127_o7 d0 i6 jf jd gd wd ge x).run k)
  | 0, n9, wn => rfl
  | n + 1, n9, wn => (u017 tt (k127_tab F) (k127_LS1 F) 70 (k127_ls7 F) (u010 7 (u000 Tryz.f41)) n (k127_st7 d0 i6 jf jd gd wd ge n9 wn) k).trans ((k127_step7 F d0 i6 jf jd gd wd ge n9 wn (nextK (iterS tt (k127_tab F) (k127_LS1 F) 70 (k127_ls7 F) (u010 7 (u000 Tryz.f41)) n) k)).trans (congrArg (fun kn => k127_s7 F d0 i6 jf jd gd wd ge R (n9, wn) kn _) (funext (fun ⟨n9, wn⟩ => k127_iter7 F d0 i6 jf jd gd wd ge k n n9 wn))))
theorem k127_lok7 (F : Nat) : u041 Tryz.prog (u010 7 (u000 Tryz.f41)) (k127_ls7 F) := by
  refine u019 mixed ttok deep (k127_tabok F) (u016 (k127_lsok1 F) 7) (fuel := 70) fun R vals mem np killed k x h => ?_
  simp only [k127_ls7] at h
  split at h
  · rename_i d0 q_out5 i6 q_next8 n9 jf jd gd wd ge wn
    simp only [GT.run] at h
    have hc := (u007 h).1
    replace h := (u007 h).2
    have hg := (u013 hc).1
    replace hc := (u013 hc).2
    obtain rfl := u032 hg
    have hg := (u013 hc).1
    replace hc := (u013 hc).2
    obtain rfl := u032 hg
    refine ⟨F, (k127_iter7 F d0 i6 jf jd gd wd ge k F n9 wn).trans ((u020 (k127_s7_nat F d0 i6 jf jd gd wd ge) hc _).trans h)⟩
  · simp only [GT.run] at h
    cases h
noncomputable def k127_LS2 (F : Nat) : LT := (7, k127_ls7 F) :: k127_LS1 F
theorem k127_lsok2 (F : Nat) : u011 Tryz.prog (k127_LS2 F) (u000 Tryz.f41) := u012 k127_keys (k127_lok7 F) (k127_lsok1 F)
def k127_st3 (d0 : Int) (gu : List (List Int)) (wu : List (List Int)) (vu : List (List Int)) (jf : List (List Int)) (i6 : Int) (vn : List (List Int)) : St := ⟨u018 53 0 [1, 5, 6, 7] [(.int .i64 d0), (.ptr 0 0 0 4), (.sl 1 0 (List.length vn)), (.int .i64 i6)], [(.var 4 (.rv [(.rr 4 gu), (.rr 4 wu), (.rr 4 vu), (.rr 4 jf)])), (.vec 27 (.rr 16 vn))], 0, []⟩
def k127_o3 (d0 : Int) (gu : List (List Int)) (wu : List (List Int)) (vu : List (List Int)) (jf : List (List Int)) (x : List (List Int)) : GT := (.out (.exit 0 ⟨u018 53 0 [6] [(.sl 0 0 (List.length x))], [(.vec 27 (.rr 16 x))], 0, []⟩))
def k127_ls3 (F : Nat) : LoopS := ⟨53, [1, 5, 6, 7], [], [6], [], [4], [], [], fun vals mem np killed => match vals, mem, np, killed with
  | [(.int .i64 d0), (.ptr 0 0 0 4), (.sl 1 0 q_out5), (.int .i64 i6)], [(.var 4 (.rv [(.rr 4 gu), (.rr 4 wu), (.rr 4 vu), (.rr 4 jf)])), (.vec 27 (.rr 16 vn))], 0, [] => .br ((Nat.beq q_out5 (List.length vn)) && (k127_l3 F d0 gu wu vu jf i6 vn).isSome) (k127_o3 d0 gu wu vu jf ((k127_l3 F d0 gu wu vu jf i6 vn).getD default)) .fail
  | _, _, _, _ => .fail⟩
theorem k127_step3 (F : Nat) (d0 : Int) (gu : List (List Int)) (wu : List (List Int)) (vu : List (List Int)) (jf : List (List Int)) (i6 : Int) (vn : List (List Int)) {R : Type} (k : Out → Option R) : stepS tt (k127_tab F) (k127_LS2 F) 70 (k127_ls3 F) (u010 3 (u000 Tryz.f41)) (k127_st3 d0 gu wu vu jf i6 vn) k = k127_s3 F d0 gu wu vu jf R (i6, vn) (fun s => k (.norm (k127_st3 d0 gu wu vu jf s.1 s.2))) (fun x => (k127_o3 d0 gu wu vu jf x).run k) := by kernel_rfl
theorem k127_iter3 (F : Nat) (d0 : Int) (gu : List (List Int)) (wu : List (List Int)) (vu : List (List Int)) (jf : List (List Int)) {R : Type} (k : Out → Option R) : ∀ (n : Nat) (i6 : Int) (vn : List (List Int)), iterS tt (k127_tab F) (k127_LS2 F) 70 (k127_ls3 F) (u010 3 (u000 Tryz.f41)) n (k127_st3 d0 gu wu vu jf i6 vn) k = loopC (k127_s3 F d0 gu wu vu jf) n (i6, vn) (fun x => (k127_o3 d0 gu wu vu jf x).run k)
  | 0, i6, vn => rfl
  | n + 1, i6, vn => (u017 tt (k127_tab F) (k127_LS2 F) 70 (k127_ls3 F) (u010 3 (u000 Tryz.f41)) n (k127_st3 d0 gu wu vu jf i6 vn) k).trans ((k127_step3 F d0 gu wu vu jf i6 vn (nextK (iterS tt (k127_tab F) (k127_LS2 F) 70 (k127_ls3 F) (u010 3 (u000 Tryz.f41)) n) k)).trans (congrArg (fun kn => k127_s3 F d0 gu wu vu jf R (i6, vn) kn _) (funext (fun ⟨i6, vn⟩ => k127_iter3 F d0 gu wu vu jf k n i6 vn))))
theorem k127_lok3 (F : Nat) : u041 Tryz.prog (u010 3 (u000 Tryz.f41)) (k127_ls3 F) := by
  refine u019 mixed ttok deep (k127_tabok F) (u016 (k127_lsok2 F) 3) (fuel := 70) fun R vals mem np killed k x h => ?_
  simp only [k127_ls3] at h
  split at h
  · rename_i d0 q_out5 i6 gu wu vu jf vn
    simp only [GT.run] at h
    have hc := (u007 h).1
    replace h := (u007 h).2
    have hg := (u013 hc).1
    replace hc := (u013 hc).2
    obtain rfl := u032 hg
    refine ⟨F, (k127_iter3 F d0 gu wu vu jf k F i6 vn).trans ((u020 (k127_s3_nat F d0 gu wu vu jf) hc _).trans h)⟩
  · simp only [GT.run] at h
    cases h
noncomputable def k127_LS3 (F : Nat) : LT := (3, k127_ls3 F) :: k127_LS2 F
theorem k127_lsok3 (F : Nat) : u011 Tryz.prog (k127_LS3 F) (u000 Tryz.f41) := u012 k127_keys (k127_lok3 F) (k127_lsok2 F)
theorem k127_run (F : Nat) (b0 : List Int) (d1 : Int) : runS tt (k127_tab F) (k127_LS3 F) [] [] Tryz.f41 (u000 Tryz.f41) 70 [(.ints 16 b0), (.int .i64 d1)] [] = k127_c _ F b0 d1 (fun r => some ⟨(.sl 0 0 (List.length r)), [(.vec 27 (.rr 16 r))], []⟩) := by kernel_rfl
def k127_ent (F : Nat) : Ent := ⟨[], .fresh, fun args mem => match args, mem with
  | [(.ints 16 b0), (.int .i64 d1)], [] => some ((k127_p F b0 d1).isSome, ⟨(.sl 0 0 (List.length ((k127_p F b0 d1).getD default))), [(.vec 27 (.rr 16 ((k127_p F b0 d1).getD default)))], []⟩)
  | _, _ => none⟩
theorem k127_fok : FunOK Tryz.prog 41 := funOK Tryz.func41 (by kernel_rfl) rfl
theorem k127_meets (F : Nat) : Meets Tryz.prog 41 (k127_ent F) := by
  refine u002 mixed ttok deep (k127_tabok F) Tryz.func41 (u009 rfl) (k127_lsok3 F) fun args mem hfit ret h => ?_
  clear hfit
  simp only [k127_ent] at h
  split at h
  · rename_i b0 d1
    simp only [Option.some.injEq, Prod.mk.injEq] at h
    obtain ⟨hc, rfl⟩ := h
    exact ⟨[], [], 70, _, (k127_run F b0 d1).trans ((k127_cp _ F b0 d1 _).trans (u014 hc _)), rfl, rfl, rfl⟩
  · cases h
end Go.Proofs.YtabfliifleonaakGreat
