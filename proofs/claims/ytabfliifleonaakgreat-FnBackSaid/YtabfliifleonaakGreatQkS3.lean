/-
Pure functions and what the code of them does, by program; without conditions.
-/
import Derived.Test.YtabfliifleonaakGreatQkPG1
import Derived.Test.YtabfliifleonaakGreatQkP3
import Derived.Test.YtabfliifleonaakGreatQkS2
namespace Go.Proofs.YtabfliifleonaakGreat
open Go Go.Lv Go.Lv.P Go.Proofs
set_option linter.unusedVariables false
set_option linter.unusedSimpArgs false
set_option maxRecDepth 100000
noncomputable def k23_tab (F : Nat) : Tab := [(98, (k54_ent F))]
theorem k23_tabok (F : Nat) : TabOK Tryz.prog (k23_tab F) := (u001 (k54_meets F) k54_fok u015)
noncomputable def k23_LS0 (F : Nat) : LT := []
theorem k23_lsok0 (F : Nat) : u011 Tryz.prog (k23_LS0 F) (u000 Tryz.f79) := u005
theorem k23_keys : u059 (u000 Tryz.f79) = true := by kernel_rfl
def k23_st2 (s10 : List Int) (s21 : List Int) (t92 : List Int) (jq : Int) (ji : Int) : St := ⟨u018 36 0 [0, 1, 9, 10, 11] [(.ri .i64 s10), (.ri .i64 s21), (.ri .i64 t92), (.int .i64 jq), (.int .i64 ji)], [], 0, []⟩
def k23_o2 (s10 : List Int) (s21 : List Int) (t92 : List Int) (jq : Int) (x : Bool × Int) : GT := (.br x.1 (.out (.ret ⟨u018 36 0 [4] [(.int .i64 x.2)], [], 0, []⟩)) (.out (.exit 0 ⟨u018 36 0 [0, 1] [(.ri .i64 s10), (.ri .i64 s21)], [], 0, []⟩)))
def k23_ls2 (F : Nat) : LoopS := ⟨36, [0, 1, 9, 10, 11], [], [0, 1], [], [4], [], [], fun vals mem np killed => match vals, mem, np, killed with
  | [(.ri .i64 s10), (.ri .i64 s21), (.ri .i64 t92), (.int .i64 jq), (.int .i64 ji)], [], 0, [] => .br (k23_l2 F s10 s21 t92 jq ji).isSome (k23_o2 s10 s21 t92 jq ((k23_l2 F s10 s21 t92 jq ji).getD default)) .fail
  | _, _, _, _ => .fail⟩
theorem k23_step2 (F : Nat) (s10 : List Int) (s21 : List Int) (t92 : List Int) (jq : Int) (ji : Int) {R : Type} (k : Out → Option R) : stepS tt (k23_tab F) (k23_LS0 F) 70 (k23_ls2 F) (u010 2 (u000 Tryz.f79)) (k23_st2 s10 s21 t92 jq ji) k = k23_s2 F s10 s21 t92 jq R ji (fun s => k (.norm (k23_st2 s10 s21 t92 jq s))) (fun x => (k23_o2 s10 s21 t92 jq x).run k) := by kernel_rfl
theorem k23_iter2 (F : Nat) (s10 : List Int) (s21 : List Int) (t92 : List Int) (jq : Int) {R : Type} (k : Out → Option R) : ∀ (n : Nat) (ji : Int), iterS tt (k23_tab F) (k23_LS0 F) 70 (k23_ls2 F) (u010 2 (u000 Tryz.f79)) n (k23_st2 s10 s21 t92 jq ji) k = loopC (k23_s2 F s10 s21 t92 jq) n ji (fun x => (k23_o2 s10 s21 t92 jq x).run k)
  | 0, ji => rfl
  | n + 1, ji => (u017 tt (k23_tab F) (k23_LS0 F) 70 (k23_ls2 F) (u010 2 (u000 Tryz.f79)) n (k23_st2 s10 s21 t92 jq ji) k).trans ((k23_step2 F s10 s21 t92 jq ji (nextK (iterS tt (k23_tab F) (k23_LS0 F) 70 (k23_ls2 F) (u010 2 (u000 Tryz.f79)) n) k)).trans (congrArg (fun kn => k23_s2 F s10 s21 t92 jq R ji kn _) (funext (fun ji => k23_iter2 F s10 s21 t92 jq k n ji))))
theorem k23_lok2 (F : Nat) : u041 Tryz.prog (u010 2 (u000 Tryz.f79)) (k23_ls2 F) := by
  refine u019 mixed ttok deep (k23_tabok F) (u016 (k23_lsok0 F) 2) (fuel := 70) fun R vals mem np killed k x h => ?_
  simp only [k23_ls2] at h
  split at h
  · rename_i s10 s21 t92 jq ji
    simp only [GT.run] at h
    have hc := (u007 h).1
    replace h := (u007 h).2
    refine ⟨F, (k23_iter2 F s10 s21 t92 jq k F ji).trans ((u020 (k23_s2_nat F s10 s21 t92 jq) hc _).trans h)⟩
  · simp only [GT.run] at h
    cases h
noncomputable def k23_LS1 (F : Nat) : LT := (2, k23_ls2 F) :: k23_LS0 F
theorem k23_lsok1 (F : Nat) : u011 Tryz.prog (k23_LS1 F) (u000 Tryz.f79) := u012 k23_keys (k23_lok2 F) (k23_lsok0 F)
theorem k23_run (F : Nat) (s10 : List Int) (s21 : List Int) : runS tt (k23_tab F) (k23_LS1 F) [] [] Tryz.f79 (u000 Tryz.f79) 70 [(.ri .i64 s10), (.ri .i64 s21)] [] = k23_c _ F s10 s21 (fun r => some ⟨(.int .i64 r), [], []⟩) := by kernel_rfl
def k23_ent (F : Nat) : Ent := ⟨[], .quiet, fun args mem => match args, mem with
  | [(.ri .i64 s10), (.ri .i64 s21)], [] => some ((k23_p F s10 s21).isSome, ⟨(.int .i64 ((k23_p F s10 s21).getD default)), [], []⟩)
  | _, _ => none⟩
theorem k23_fok : FunOK Tryz.prog 79 := funOK Tryz.func79 (by kernel_rfl) rfl
theorem k23_meets (F : Nat) : Meets Tryz.prog 79 (k23_ent F) := by
  refine u002 mixed ttok deep (k23_tabok F) Tryz.func79 (u009 rfl) (k23_lsok1 F) fun args mem hfit ret h => ?_
  clear hfit
  simp only [k23_ent] at h
  split at h
  · rename_i s10 s21
    simp only [Option.some.injEq, Prod.mk.injEq] at h
    obtain ⟨hc, rfl⟩ := h
    exact ⟨[], [], 70, _, (k23_run F s10 s21).trans ((k23_cp _ F s10 s21 _).trans (u014 hc _)), rfl, rfl, rfl⟩
  · cases h
noncomputable def k31_tab (F : Nat) : Tab := [(79, (k23_ent F))]
theorem k31_tabok (F : Nat) : TabOK Tryz.prog (k31_tab F) := (u001 (k23_meets F) k23_fok u015)
noncomputable def k31_LS0 (F : Nat) : LT := []
theorem k31_lsok0 (F : Nat) : u011 Tryz.prog (k31_LS0 F) (u000 Tryz.f88) := u005
theorem k31_run (F : Nat) (a0 : List Int) (b1 : List Int) : runS tt (k31_tab F) (k31_LS0 F) [] [] Tryz.f88 (u000 Tryz.f88) 70 [(.ints 4 a0), (.ints 4 b1)] [] = k31_c _ F a0 b1 (fun r => some ⟨(.int .i64 r), [], []⟩) := by kernel_rfl
def k31_ent (F : Nat) : Ent := ⟨[], .quiet, fun args mem => match args, mem with
  | [(.ints 4 a0), (.ints 4 b1)], [] => some ((k31_p F a0 b1).isSome, ⟨(.int .i64 ((k31_p F a0 b1).getD default)), [], []⟩)
  | _, _ => none⟩
theorem k31_fok : FunOK Tryz.prog 88 := funOK Tryz.func88 (by kernel_rfl) rfl
theorem k31_meets (F : Nat) : Meets Tryz.prog 88 (k31_ent F) := by
  refine u002 mixed ttok deep (k31_tabok F) Tryz.func88 (u009 rfl) (k31_lsok0 F) fun args mem hfit ret h => ?_
  clear hfit
  simp only [k31_ent] at h
  split at h
  · rename_i a0 b1
    simp only [Option.some.injEq, Prod.mk.injEq] at h
    obtain ⟨hc, rfl⟩ := h
    exact ⟨[], [], 70, _, (k31_run F a0 b1).trans ((k31_cp _ F a0 b1 _).trans (u014 hc _)), rfl, rfl, rfl⟩
  · cases h
def u040 (F : Nat) : Ent := sortEnt 88 4 24 F
theorem u058 : FunOK Tryz.prog 87 := funOK Tryz.func87 (by kernel_rfl) rfl
theorem u056 (F : Nat) : Meets Tryz.prog 87 (u040 F) := by
  refine u278 Tryz.sort87 4 24 F Tryz.isAgg24 Tryz.sizeOf24 88 (enters_of Tryz.func88 (by kernel_rfl) rfl) (k31_ent F) (k31_meets F) rfl fun hF x y hx hy => ?_
  simp only [k31_ent, k31_cmp F hF hx hy, Option.isSome_some, Option.getD_some]
noncomputable def k20_tab (F : Nat) : Tab := []
theorem k20_tabok (F : Nat) : TabOK Tryz.prog (k20_tab F) := u015
noncomputable def k20_LS0 (F : Nat) : LT := []
theorem k20_lsok0 (F : Nat) : u011 Tryz.prog (k20_LS0 F) (u000 Tryz.f89) := u005
theorem k20_keys : u059 (u000 Tryz.f89) = true := by kernel_rfl
def k20_st9 (s1 : Nat) (s23 : Nat) (s24 : Nat) (k2 : Int) (k25 : Int) (s6 : List (List Int)) : St := ⟨u018 61 0 [0, 3, 4, 5] [(.sl 0 0 s1), (.int .i64 k2), (.sl 0 s23 s24), (.int .i64 k25)], [(.vec 24 (.rr 4 s6))], 1, []⟩
def k20_o9 (s1 : Nat) (s23 : Nat) (s24 : Nat) (x : Int × List (List Int)) : GT := (.out (.exit 2 ⟨u018 61 0 [0, 3] [(.sl 0 0 s1), (.int .i64 x.1)], [(.vec 24 (.rr 4 x.2))], 1, []⟩))
def k20_ls9 (F : Nat) : LoopS := ⟨61, [0, 3, 4, 5], [], [0, 3], [], [2], [], [], fun vals mem np killed => match vals, mem, np, killed with
  | [(.sl 0 0 s1), (.int .i64 k2), (.sl 0 s23 s24), (.int .i64 k25)], [(.vec 24 (.rr 4 s6))], 1, [] => .br (k20_l9 F s1 s23 s24 k2 k25 s6).isSome (k20_o9 s1 s23 s24 ((k20_l9 F s1 s23 s24 k2 k25 s6).getD default)) .fail
  | _, _, _, _ => .fail⟩
theorem k20_step9 (F : Nat) (s1 : Nat) (s23 : Nat) (s24 : Nat) (k2 : Int) (k25 : Int) (s6 : List (List Int)) {R : Type} (k : Out → Option R) : stepS tt (k20_tab F) (k20_LS0 F) 70 (k20_ls9 F) (u010 9 (u000 Tryz.f89)) (k20_st9 s1 s23 s24 k2 k25 s6) k = k20_s9 F s1 s23 s24 R (k2, k25, s6) (fun s => k (.norm (k20_st9 s1 s23 s24 s.1 s.2.1 s.2.2))) (fun x => (k20_o9 s1 s23 s24 x).run k) := by kernel_rfl
theorem k20_iter9 (F : Nat) (s1 : Nat) (s23 : Nat) (s24 : Nat) {R : Type} (k : Out → Option R) : ∀ (n : Nat) (k2 : Int) (k25 : Int) (s6 : List (List Int)), iterS tt (k20_tab F) (k20_LS0 F) 70 (k20_ls9 F) (u010 9 (u000 Tryz.f89)) n (k20_st9 s1 s23 s24 k2 k25 s6) k = loopC (k20_s9 F s1 s23 s24) n (k2, k25, s6) (fun x => (k20_o9 s1 s23 s24 x).run k)
  | 0, k2, k25, s6 => rfl
  | n + 1, k2, k25, s6 => (u017 tt (k20_tab F) (k20_LS0 F) 70 (k20_ls9 F) (u010 9 (u000 Tryz.f89)) n (k20_st9 s1 s23 s24 k2 k25 s6) k).trans ((k20_step9 F s1 s23 s24 k2 k25 s6 (nextK (iterS tt (k20_tab F) (k20_LS0 F) 70 (k20_ls9 F) (u010 9 (u000 Tryz.f89)) n) k)).trans (congrArg (fun kn => k20_s9 F s1 s23 s24 R (k2, k25, s6) kn _) (funext (fun ⟨k2, k25, s6⟩ => k20_iter9 F s1 s23 s24 k n k2 k25 s6))))
theorem k20_lok9 (F : Nat) : u041 Tryz.prog (u010 9 (u000 Tryz.f89)) (k20_ls9 F) := by
  refine u019 mixed ttok deep (k20_tabok F) (u016 (k20_lsok0 F) 9) (fuel := 70) fun R vals mem np killed k x h => ?_
  simp only [k20_ls9] at h
  split at h
  · rename_i s1 k2 s23 s24 k25 s6
    simp only [GT.run] at h
    have hc := (u007 h).1
    replace h := (u007 h).2
    refine ⟨F, (k20_iter9 F s1 s23 s24 k F k2 k25 s6).trans ((u020 (k20_s9_nat F s1 s23 s24) hc _).trans h)⟩
  · simp only [GT.run] at h
    cases h
noncomputable def k20_LS1 (F : Nat) : LT := (9, k20_ls9 F) :: k20_LS0 F
theorem k20_lsok1 (F : Nat) : u011 Tryz.prog (k20_LS1 F) (u000 Tryz.f89) := u012 k20_keys (k20_lok9 F) (k20_lsok0 F)
def k20_st4 (s1 : Nat) (s3 : List (List Int)) (k2 : Int) : St := ⟨u018 61 0 [0, 3] [(.sl 0 0 s1), (.int .i64 k2)], [(.vec 24 (.rr 4 s3))], 1, []⟩
def k20_o4 (s1 : Nat) (s3 : List (List Int)) (x : Bool × Nat × List (List Int)) : GT := (.br x.1 (.out (.ret ⟨u018 61 0 [2] [(.sl 0 0 x.2.1)], [(.vec 24 (.rr 4 x.2.2))], 1, []⟩)) (.out (.exit 0 ⟨u018 61 0 [0] [(.sl 0 0 s1)], [(.vec 24 (.rr 4 s3))], 1, []⟩)))
def k20_ls4 (F : Nat) : LoopS := ⟨61, [0, 3], [], [0], [], [2], [], [], fun vals mem np killed => match vals, mem, np, killed with
  | [(.sl 0 0 s1), (.int .i64 k2)], [(.vec 24 (.rr 4 s3))], 1, [] => .br (k20_l4 F s1 s3 k2).isSome (k20_o4 s1 s3 ((k20_l4 F s1 s3 k2).getD default)) .fail
  | _, _, _, _ => .fail⟩
theorem k20_step4 (F : Nat) (s1 : Nat) (s3 : List (List Int)) (k2 : Int) {R : Type} (k : Out → Option R) : stepS tt (k20_tab F) (k20_LS1 F) 70 (k20_ls4 F) (u010 4 (u000 Tryz.f89)) (k20_st4 s1 s3 k2) k = k20_s4 F s1 s3 R k2 (fun s => k (.norm (k20_st4 s1 s3 s))) (fun x => (k20_o4 s1 s3 x).run k) := by kernel_rfl
theorem k20_iter4 (F : Nat) (s1 : Nat) (s3 : List (List Int)) {R : Type} (k : Out → Option R) : ∀ (n : Nat) (k2 : Int), iterS tt (k20_tab F) (k20_LS1 F) 70 (k20_ls4 F) (u010 4 (u000 Tryz.f89)) n (k20_st4 s1 s3 k2) k = loopC (k20_s4 F s1 s3) n k2 (fun x => (k20_o4 s1 s3 x).run k)
  | 0, k2 => rfl
  | n + 1, k2 => (u017 tt (k20_tab F) (k20_LS1 F) 70 (k20_ls4 F) (u010 4 (u000 Tryz.f89)) n (k20_st4 s1 s3 k2) k).trans ((k20_step4 F s1 s3 k2 (nextK (iterS tt (k20_tab F) (k20_LS1 F) 70 (k20_ls4 F) (u010 4 (u000 Tryz.f89)) n) k)).trans (congrArg (fun kn => k20_s4 F s1 s3 R k2 kn _) (funext (fun k2 => k20_iter4 F s1 s3 k n k2))))
theorem k20_lok4 (F : Nat) : u041 Tryz.prog (u010 4 (u000 Tryz.f89)) (k20_ls4 F) := by
  refine u019 mixed ttok deep (k20_tabok F) (u016 (k20_lsok1 F) 4) (fuel := 70) fun R vals mem np killed k x h => ?_
  simp only [k20_ls4] at h
  split at h
  · rename_i s1 k2 s3
    simp only [GT.run] at h
    have hc := (u007 h).1
    replace h := (u007 h).2
    refine ⟨F, (k20_iter4 F s1 s3 k F k2).trans ((u020 (k20_s4_nat F s1 s3) hc _).trans h)⟩
  · simp only [GT.run] at h
    cases h
noncomputable def k20_LS2 (F : Nat) : LT := (4, k20_ls4 F) :: k20_LS1 F
theorem k20_lsok2 (F : Nat) : u011 Tryz.prog (k20_LS2 F) (u000 Tryz.f89) := u012 k20_keys (k20_lok4 F) (k20_lsok1 F)
theorem k20_run (F : Nat) (s1 : Nat) (s2 : List (List Int)) : runS tt (k20_tab F) (k20_LS2 F) [] [] Tryz.f89 (u000 Tryz.f89) 70 [(.sl 0 0 s1)] [(.vec 24 (.rr 4 s2))] = k20_c _ F s1 s2 (fun r => some ⟨(.sl 0 0 r.1), [(.vec 24 (.rr 4 r.2))], []⟩) := by kernel_rfl
def k20_ent (F : Nat) : Ent := ⟨[true], .loud, fun args mem => match args, mem with
  | [(.sl 0 0 s1)], [(.vec 24 (.rr 4 s2))] => some ((k20_p F s1 s2).isSome, ⟨(.sl 0 0 ((k20_p F s1 s2).getD default).1), [(.vec 24 (.rr 4 ((k20_p F s1 s2).getD default).2))], []⟩)
  | _, _ => none⟩
theorem k20_fok : FunOK Tryz.prog 89 := funOK Tryz.func89 (by kernel_rfl) rfl
theorem k20_meets (F : Nat) : Meets Tryz.prog 89 (k20_ent F) := by
  refine u002 mixed ttok deep (k20_tabok F) Tryz.func89 (u009 rfl) (k20_lsok2 F) fun args mem hfit ret h => ?_
  clear hfit
  simp only [k20_ent] at h
  split at h
  · rename_i s1 s2
    simp only [Option.some.injEq, Prod.mk.injEq] at h
    obtain ⟨hc, rfl⟩ := h
    exact ⟨[], [], 70, _, (k20_run F s1 s2).trans ((k20_cp _ F s1 s2 _).trans (u014 hc _)), rfl, rfl, rfl⟩
  · cases h
noncomputable def k64_tab (F : Nat) : Tab := [(84, (k97_ent F)), (86, (k120_ent F)), (85, (k118_ent F)), (78, (k83_ent F)), (87, (u040 F)), (89, (k20_ent F))]
theorem k64_tabok (F : Nat) : TabOK Tryz.prog (k64_tab F) := (u001 (k97_meets F) k97_fok (u001 (k120_meets F) k120_fok (u001 (k118_meets F) k118_fok (u001 (k83_meets F) k83_fok (u001 (u056 F) u058 (u001 (k20_meets F) k20_fok u015))))))
noncomputable def k64_LS0 (F : Nat) : LT := []
theorem k64_lsok0 (F : Nat) : u011 Tryz.prog (k64_LS0 F) (u000 Tryz.f62) := u005
theorem k64_keys : u059 (u000 Tryz.f62) = true := by kernel_rfl
def k64_st12 (j5 : List Int) (gq : Int) (wq : Int) (vq : Int) (yr : Int) (jr : List Int) (gi : List (List Int)) (wi : List (List Int)) (k10 : Int) (gk : Int) (yw : List Int) : St := ⟨u018 74 0 [1, 3, 5, 6, 7, 8, 20, 21, 22, 26, 30] [(.ptr 0 0 0 4), (.sl 1 0 (List.length gi)), (.ri .i64 j5), (.int .i64 gq), (.ptr 2 0 0 4), (.int .i64 k10), (.sl 3 0 (List.length wi)), (.int .i64 wq), (.int .i64 vq), (.int .i64 yr), (.int .i64 gk)], [(.var 4 (.ri .i64 jr)), (.vec 24 (.rr 4 gi)), (.var 4 (.ri .i64 yw)), (.vec 35 (.rl .i64 wi))], 0, []⟩
def k64_o12 (j5 : List Int) (gq : Int) (wq : Int) (vq : Int) (yr : Int) (jr : List Int) (gi : List (List Int)) (wi : List (List Int)) (x : Int × List Int) : GT := (.out (.exit 4 ⟨u018 74 0 [1, 3, 5, 7, 8, 20, 21, 22, 26] [(.ptr 0 0 0 4), (.sl 1 0 (List.length gi)), (.ri .i64 j5), (.ptr 2 0 0 4), (.int .i64 x.1), (.sl 3 0 (List.length wi)), (.int .i64 wq), (.int .i64 vq), (.int .i64 yr)], [(.var 4 (.ri .i64 jr)), (.vec 24 (.rr 4 gi)), (.var 4 (.ri .i64 x.2)), (.vec 35 (.rl .i64 wi))], 0, []⟩))
def k64_ls12 (F : Nat) : LoopS := ⟨74, [1, 3, 5, 6, 7, 8, 20, 21, 22, 26, 30], [], [1, 3, 5, 7, 8, 20, 21, 22, 26], [], [2], [], [], fun vals mem np killed => match vals, mem, np, killed with
  | [(.ptr 0 0 0 4), (.sl 1 0 q_out4), (.ri .i64 j5), (.int .i64 gq), (.ptr 2 0 0 4), (.int .i64 k10), (.sl 3 0 q_t2012), (.int .i64 wq), (.int .i64 vq), (.int .i64 yr), (.int .i64 gk)], [(.var 4 (.ri .i64 jr)), (.vec 24 (.rr 4 gi)), (.var 4 (.ri .i64 yw)), (.vec 35 (.rl .i64 wi))], 0, [] => .br ((Nat.beq q_out4 (List.length gi)) && ((Nat.beq q_t2012 (List.length wi)) && (k64_l12 F j5 gq wq vq yr jr gi wi k10 gk yw).isSome)) (k64_o12 j5 gq wq vq yr jr gi wi ((k64_l12 F j5 gq wq vq yr jr gi wi k10 gk yw).getD default)) .fail
  | _, _, _, _ => .fail⟩
theorem k64_step12 (F : Nat) (j5 : List Int) (gq : Int) (wq : Int) (vq : Int) (yr : Int) (jr : List Int) (gi : List (List Int)) (wi : List (List Int)) (k10 : Int) (gk : Int) (yw : List Int) {R : Type} (k : Out → Option R) : stepS tt (k64_tab F) (k64_LS0 F) 70 (k64_ls12 F) (u010 12 (u000 Tryz.f62)) (k64_st12 j5 gq wq vq yr jr gi wi k10 gk yw) k = k64_s12 F j5 gq wq vq yr jr gi wi R (k10, gk, yw) (fun s => k (.norm (k64_st12 j5 gq wq vq yr jr gi wi s.1 s.2.1 s.2.2))) (fun x => (k64_o12 j5 gq wq vq yr jr gi wi x).run k) := by kernel_rfl
theorem k64_iter12 (F : Nat) (j5 : List Int) (gq : Int) (wq : Int) (vq : Int) (yr : Int) (jr : List Int) (gi : List (List Int)) (wi : List (List Int)) {R : Type} (k : Out → Option R) : ∀ (n : Nat) (k10 : Int) (gk : Int) (yw : List Int), iterS tt (k64_tab F) (k64_LS0 F) 70 (k64_ls12 F) (u010 12 (u000 Tryz.f62)) n (k64_st12 j5 gq wq vq yr jr gi wi k10 gk yw) k = loopC (k64_s12 F j5 gq wq vq yr jr gi wi) n (k10, gk, yw) (fun x => (k64_o12 j5 gq wq vq yr jr gi wi x).run k)
  | 0, k10, gk, yw => rfl
  | n + 1, k10, gk, yw => (u017 tt (k64_tab F) (k64_LS0 F) 70 (k64_ls12 F) (u010 12 (u000 Tryz.f62)) n (k64_st12 j5 gq wq vq yr jr gi wi k10 gk yw) k).trans ((k64_step12 F j5 gq wq vq yr jr gi wi k10 gk yw (nextK (iterS tt (k64_tab F) (k64_LS0 F) 70 (k64_ls12 F) (u010 12 (u000 Tryz.f62)) n) k)).trans (congrArg (fun kn => k64_s12 F j5 gq wq vq yr jr gi wi R (k10, gk, yw) kn _) (funext (fun ⟨k10, gk, yw⟩ => k64_iter12 F j5 gq wq vq yr jr gi wi k n k10 gk yw))))
theorem k64_lok12 (F : Nat) : u041 Tryz.prog (u010 12 (u000 Tryz.f62)) (k64_ls12 F) := by
  refine u019 mixed ttok deep (k64_tabok F) (u016 (k64_lsok0 F) 12) (fuel := 70) fun R vals mem np killed k x h => ?_
  simp only [k64_ls12] at h
  split at h
  · rename_i q_out4 j5 gq k10 q_t2012 wq vq yr gk jr gi yw wi
    simp only [GT.run] at h
    have hc := (u007 h).1
    replace h := (u007 h).2
    have hg := (u013 hc).1
    replace hc := (u013 hc).2
    obtain rfl := u032 hg
    have hg := (u013 hc).1
    replace hc := (u013 hc).2
    obtain rfl := u032 hg
    refine ⟨F, (k64_iter12 F j5 gq wq vq yr jr gi wi k F k10 gk yw).trans ((u020 (k64_s12_nat F j5 gq wq vq yr jr gi wi) hc _).trans h)⟩
  · simp only [GT.run] at h
    cases h
noncomputable def k64_LS1 (F : Nat) : LT := (12, k64_ls12 F) :: k64_LS0 F
theorem k64_lsok1 (F : Nat) : u011 Tryz.prog (k64_LS1 F) (u000 Tryz.f62) := u012 k64_keys (k64_lok12 F) (k64_lsok0 F)
def k64_st8 (j5 : List Int) (wk : Int) (vk : Int) (wj : List Int) (yh : List (List Int)) (jw : Int) (w9 : List (List Int)) : St := ⟨u018 74 0 [1, 3, 5, 20, 21, 22, 26] [(.ptr 0 0 0 4), (.sl 1 0 (List.length w9)), (.ri .i64 j5), (.sl 2 0 (List.length yh)), (.int .i64 wk), (.int .i64 vk), (.int .i64 jw)], [(.var 4 (.ri .i64 wj)), (.vec 24 (.rr 4 w9)), (.vec 35 (.rl .i64 yh))], 0, []⟩
def k64_o8 (j5 : List Int) (wk : Int) (vk : Int) (wj : List Int) (yh : List (List Int)) (x : List (List Int)) : GT := (.out (.exit 2 ⟨u018 74 0 [1, 3, 20, 21, 22] [(.ptr 0 0 0 4), (.sl 1 0 (List.length x)), (.sl 2 0 (List.length yh)), (.int .i64 wk), (.int .i64 vk)], [(.var 4 (.ri .i64 wj)), (.vec 24 (.rr 4 x)), (.vec 35 (.rl .i64 yh))], 0, []⟩))
def k64_ls8 (F : Nat) : LoopS := ⟨74, [1, 3, 5, 20, 21, 22, 26], [], [1, 3, 20, 21, 22], [], [2], [], [], fun vals mem np killed => match vals, mem, np, killed with
  | [(.ptr 0 0 0 4), (.sl 1 0 q_out4), (.ri .i64 j5), (.sl 2 0 q_t207), (.int .i64 wk), (.int .i64 vk), (.int .i64 jw)], [(.var 4 (.ri .i64 wj)), (.vec 24 (.rr 4 w9)), (.vec 35 (.rl .i64 yh))], 0, [] => .br ((Nat.beq q_out4 (List.length w9)) && ((Nat.beq q_t207 (List.length yh)) && (k64_l8 F j5 wk vk wj yh jw w9).isSome)) (k64_o8 j5 wk vk wj yh ((k64_l8 F j5 wk vk wj yh jw w9).getD default)) .fail
  | _, _, _, _ => .fail⟩
theorem k64_step8 (F : Nat) (j5 : List Int) (wk : Int) (vk : Int) (wj : List Int) (yh : List (List Int)) (jw : Int) (w9 : List (List Int)) {R : Type} (k : Out → Option R) : stepS tt (k64_tab F) (k64_LS1 F) 70 (k64_ls8 F) (u010 8 (u000 Tryz.f62)) (k64_st8 j5 wk vk wj yh jw w9) k = k64_s8 F j5 wk vk wj yh R (jw, w9) (fun s => k (.norm (k64_st8 j5 wk vk wj yh s.1 s.2))) (fun x => (k64_o8 j5 wk vk wj yh x).run k) := by kernel_rfl
theorem k64_iter8 (F : Nat) (j5 : List Int) (wk : Int) (vk : Int) (wj : List Int) (yh : List (List Int)) {R : Type} (k : Out → Option R) : ∀ (n : Nat) (jw : Int) (w9 : List (List Int)), iterS tt (k64_tab F) (k64_LS1 F) 70 (k64_ls8 F) (u010 8 (u000 Tryz.f62)) n (k64_st8 j5 wk vk wj yh jw w9) k = loopC (k64_s8 F j5 wk vk wj yh) n (jw, w9) (fun x => (k64_o8 j5 wk vk wj yh x).run k)
  | 0, jw, w9 => rfl
  | n + 1, jw, w9 => (u017 tt (k64_tab F) (k64_LS1 F) 70 (k64_ls8 F) (u010 8 (u000 Tryz.f62)) n (k64_st8 j5 wk vk wj yh jw w9) k).trans ((k64_step8 F j5 wk vk wj yh jw w9 (nextK (iterS tt (k64_tab F) (k64_LS1 F) 70 (k64_ls8 F) (u010 8 (u000 Tryz.f62)) n) k)).trans (congrArg (fun kn => k64_s8 F j5 wk vk wj yh R (jw, w9) kn _) (funext (fun ⟨jw, w9⟩ => k64_iter8 F j5 wk vk wj yh k n jw w9))))
theorem k64_lok8 (F : Nat) : u041 Tryz.prog (u010 8 (u000 Tryz.f62)) (k64_ls8 F) := by
  refine u019 mixed ttok deep (k64_tabok F) (u016 (k64_lsok1 F) 8) (fuel := 70) fun R vals mem np killed k x h => ?_
  simp only [k64_ls8] at h
  split at h
  · rename_i q_out4 j5 q_t207 wk vk jw wj w9 yh
    simp only [GT.run] at h
    have hc := (u007 h).1
    replace h := (u007 h).2
    have hg := (u013 hc).1
    replace hc := (u013 hc).2
    obtain rfl := u032 hg
    have hg := (u013 hc).1
    replace hc := (u013 hc).2
    obtain rfl := u032 hg
    refine ⟨F, (k64_iter8 F j5 wk vk wj yh k F jw w9).trans ((u020 (k64_s8_nat F j5 wk vk wj yh) hc _).trans h)⟩
  · simp only [GT.run] at h
    cases h
noncomputable def k64_LS2 (F : Nat) : LT := (8, k64_ls8 F) :: k64_LS1 F
theorem k64_lsok2 (F : Nat) : u011 Tryz.prog (k64_LS2 F) (u000 Tryz.f62) := u012 k64_keys (k64_lok8 F) (k64_lsok1 F)
def k64_st5 (yl : Int) (gr : List Int) (jh : List (List Int)) (wr : Int) (je : List (List Int)) : St := ⟨u018 74 0 [1, 3, 20, 21, 22] [(.ptr 0 0 0 4), (.sl 1 0 (List.length je)), (.sl 2 0 (List.length jh)), (.int .i64 yl), (.int .i64 wr)], [(.var 4 (.ri .i64 gr)), (.vec 24 (.rr 4 je)), (.vec 35 (.rl .i64 jh))], 0, []⟩
def k64_o5 (yl : Int) (gr : List Int) (jh : List (List Int)) (x : List (List Int)) : GT := (.out (.exit 0 ⟨u018 74 0 [3] [(.sl 0 0 (List.length x))], [(.vec 24 (.rr 4 x))], 0, []⟩))
def k64_ls5 (F : Nat) : LoopS := ⟨74, [1, 3, 20, 21, 22], [], [3], [], [2], [], [], fun vals mem np killed => match vals, mem, np, killed with
  | [(.ptr 0 0 0 4), (.sl 1 0 q_out4), (.sl 2 0 q_t206), (.int .i64 yl), (.int .i64 wr)], [(.var 4 (.ri .i64 gr)), (.vec 24 (.rr 4 je)), (.vec 35 (.rl .i64 jh))], 0, [] => .br ((Nat.beq q_out4 (List.length je)) && ((Nat.beq q_t206 (List.length jh)) && (k64_l5 F yl gr jh wr je).isSome)) (k64_o5 yl gr jh ((k64_l5 F yl gr jh wr je).getD default)) .fail
  | _, _, _, _ => .fail⟩
theorem k64_step5 (F : Nat) (yl : Int) (gr : List Int) (jh : List (List Int)) (wr : Int) (je : List (List Int)) {R : Type} (k : Out → Option R) : stepS tt (k64_tab F) (k64_LS2 F) 70 (k64_ls5 F) (u010 5 (u000 Tryz.f62)) (k64_st5 yl gr jh wr je) k = k64_s5 F yl gr jh R (wr, je) (fun s => k (.norm (k64_st5 yl gr jh s.1 s.2))) (fun x => (k64_o5 yl gr jh x).run k) := by kernel_rfl
theorem k64_iter5 (F : Nat) (yl : Int) (gr : List Int) (jh : List (List Int)) {R : Type} (k : Out → Option R) : ∀ (n : Nat) (wr : Int) (je : List (List Int)), iterS tt (k64_tab F) (k64_LS2 F) 70 (k64_ls5 F) (u010 5 (u000 Tryz.f62)) n (k64_st5 yl gr jh wr je) k = loopC (k64_s5 F yl gr jh) n (wr, je) (fun x => (k64_o5 yl gr jh x).run k)
  | 0, wr, je => rfl
  | n + 1, wr, je => (u017 tt (k64_tab F) (k64_LS2 F) 70 (k64_ls5 F) (u010 5 (u000 Tryz.f62)) n (k64_st5 yl gr jh wr je) k).trans ((k64_step5 F yl gr jh wr je (nextK (iterS tt (k64_tab F) (k64_LS2 F) 70 (k64_ls5 F) (u010 5 (u000 Tryz.f62)) n) k)).trans (congrArg (fun kn => k64_s5 F yl gr jh R (wr, je) kn _) (funext (fun ⟨wr, je⟩ => k64_iter5 F yl gr jh k n wr je))))
theorem k64_lok5 (F : Nat) : u041 Tryz.prog (u010 5 (u000 Tryz.f62)) (k64_ls5 F) := by
  refine u019 mixed ttok deep (k64_tabok F) (u016 (k64_lsok2 F) 5) (fuel := 70) fun R vals mem np killed k x h => ?_
  simp only [k64_ls5] at h
  split at h
  · rename_i q_out4 q_t206 yl wr gr je jh
    simp only [GT.run] at h
    have hc := (u007 h).1
    replace h := (u007 h).2
    have hg := (u013 hc).1
    replace hc := (u013 hc).2
    obtain rfl := u032 hg
    have hg := (u013 hc).1
    replace hc := (u013 hc).2
    obtain rfl := u032 hg
    refine ⟨F, (k64_iter5 F yl gr jh k F wr je).trans ((u020 (k64_s5_nat F yl gr jh) hc _).trans h)⟩
  · simp only [GT.run] at h
    cases h
noncomputable def k64_LS3 (F : Nat) : LT := (5, k64_ls5 F) :: k64_LS2 F
theorem k64_lsok3 (F : Nat) : u011 Tryz.prog (k64_LS3 F) (u000 Tryz.f62) := u012 k64_keys (k64_lok5 F) (k64_lsok2 F)
theorem k64_run (F : Nat) (w4 : List Int) : runS tt (k64_tab F) (k64_LS3 F) [] [] Tryz.f62 (u000 Tryz.f62) 70 [(.ints 4 w4)] [] = k64_c _ F w4 (fun r => some ⟨(.sl 0 0 r.1), [(.vec 24 (.rr 4 r.2))], []⟩) := by kernel_rfl
def k64_ent (F : Nat) : Ent := ⟨[], .fresh, fun args mem => match args, mem with
  | [(.ints 4 w4)], [] => some ((k64_p F w4).isSome, ⟨(.sl 0 0 ((k64_p F w4).getD default).1), [(.vec 24 (.rr 4 ((k64_p F w4).getD default).2))], []⟩)
  | _, _ => none⟩
theorem k64_fok : FunOK Tryz.prog 62 := funOK Tryz.func62 (by kernel_rfl) rfl
theorem k64_meets (F : Nat) : Meets Tryz.prog 62 (k64_ent F) := by
  refine u002 mixed ttok deep (k64_tabok F) Tryz.func62 (u009 rfl) (k64_lsok3 F) fun args mem hfit ret h => ?_
  clear hfit
  simp only [k64_ent] at h
  split at h
  · rename_i w4
    simp only [Option.some.injEq, Prod.mk.injEq] at h
    obtain ⟨hc, rfl⟩ := h
    exact ⟨[], [], 70, _, (k64_run F w4).trans ((k64_cp _ F w4 _).trans (u014 hc _)), rfl, rfl, rfl⟩
  · cases h
noncomputable def k22_tab (F : Nat) : Tab := [(63, (k56_ent F)), (62, (k64_ent F))]
theorem k22_tabok (F : Nat) : TabOK Tryz.prog (k22_tab F) := (u001 (k56_meets F) k56_fok (u001 (k64_meets F) k64_fok u015))
noncomputable def k22_LS0 (F : Nat) : LT := []
theorem k22_lsok0 (F : Nat) : u011 Tryz.prog (k22_LS0 F) (u000 Tryz.f32) := u005
theorem k22_run (F : Nat) (b0 : List Int) (j1 : Int) : runS tt (k22_tab F) (k22_LS0 F) [] [] Tryz.f32 (u000 Tryz.f32) 70 [(.ints 16 b0), (.int .i64 j1)] [] = k22_c _ F b0 j1 (fun r => some ⟨(.agg [(.rr 4 r.1), (.rr 4 r.2.1), (.rr 4 r.2.2.1), (.rr 4 r.2.2.2)]), [], []⟩) := by kernel_rfl
def k22_ent (F : Nat) : Ent := ⟨[], .quiet, fun args mem => match args, mem with
  | [(.ints 16 b0), (.int .i64 j1)], [] => some ((k22_p F b0 j1).isSome, ⟨(.agg [(.rr 4 ((k22_p F b0 j1).getD default).1), (.rr 4 ((k22_p F b0 j1).getD default).2.1), (.rr 4 ((k22_p F b0 j1).getD default).2.2.1), (.rr 4 ((k22_p F b0 j1).getD default).2.2.2)]), [], []⟩)
  | _, _ => none⟩
theorem k22_fok : FunOK Tryz.prog 32 := funOK Tryz.func32 (by kernel_rfl) rfl
theorem k22_meets (F : Nat) : Meets Tryz.prog 32 (k22_ent F) := by
  refine u002 mixed ttok deep (k22_tabok F) Tryz.func32 (u009 rfl) (k22_lsok0 F) fun args mem hfit ret h => ?_
  clear hfit
  simp only [k22_ent] at h
  split at h
  · rename_i b0 j1
    simp only [Option.some.injEq, Prod.mk.injEq] at h
    obtain ⟨hc, rfl⟩ := h
    exact ⟨[], [], 70, _, (k22_run F b0 j1).trans ((k22_cp _ F b0 j1 _).trans (u014 hc _)), rfl, rfl, rfl⟩
  · cases h
noncomputable def k29_tab (F : Nat) : Tab := [(64, (k82_ent F)), (50, (k78_ent F))]
theorem k29_tabok (F : Nat) : TabOK Tryz.prog (k29_tab F) := (u001 (k82_meets F) k82_fok (u001 (k78_meets F) k78_fok u015))
noncomputable def k29_LS0 (F : Nat) : LT := []
theorem k29_lsok0 (F : Nat) : u011 Tryz.prog (k29_LS0 F) (u000 Tryz.f33) := u005
theorem k29_run (F : Nat) (b0 : List Int) (j1 : Int) (i2 : Int) (wg : List Int) : runS tt (k29_tab F) (k29_LS0 F) [] [] Tryz.f33 (u000 Tryz.f33) 70 [(.ints 16 b0), (.int .i64 j1), (.int .i64 i2), (.ints 4 wg)] [] = k29_c _ b0 j1 i2 wg (fun r => some ⟨(.ints 16 r), [], []⟩) := by kernel_rfl
def k29_ent (F : Nat) : Ent := ⟨[], .quiet, fun args mem => match args, mem with
  | [(.ints 16 b0), (.int .i64 j1), (.int .i64 i2), (.ints 4 wg)], [] => some ((k29_p b0 j1 i2 wg).isSome, ⟨(.ints 16 ((k29_p b0 j1 i2 wg).getD default)), [], []⟩)
  | _, _ => none⟩
theorem k29_fok : FunOK Tryz.prog 33 := funOK Tryz.func33 (by kernel_rfl) rfl
theorem k29_meets (F : Nat) : Meets Tryz.prog 33 (k29_ent F) := by
  refine u002 mixed ttok deep (k29_tabok F) Tryz.func33 (u009 rfl) (k29_lsok0 F) fun args mem hfit ret h => ?_
  clear hfit
  simp only [k29_ent] at h
  split at h
  · rename_i b0 j1 i2 wg
    simp only [Option.some.injEq, Prod.mk.injEq] at h
    obtain ⟨hc, rfl⟩ := h
    exact ⟨[], [], 70, _, (k29_run F b0 j1 i2 wg).trans ((k29_cp _ b0 j1 i2 wg _).trans (u014 hc _)), rfl, rfl, rfl⟩
  · cases h
noncomputable def k48_tab (F : Nat) : Tab := [(63, (k56_ent F)), (78, (k83_ent F)), (33, (k29_ent F))]
theorem k48_tabok (F : Nat) : TabOK Tryz.prog (k48_tab F) := (u001 (k56_meets F) k56_fok (u001 (k83_meets F) k83_fok (u001 (k29_meets F) k29_fok u015)))
noncomputable def k48_LS0 (F : Nat) : LT := []
theorem k48_lsok0 (F : Nat) : u011 Tryz.prog (k48_LS0 F) (u000 Tryz.f55) := u005
theorem k48_keys : u059 (u000 Tryz.f55) = true := by kernel_rfl
def k48_st8 (j4 : Int) (w7 : Int) (gf : Int) (vr : List Bool) (b15 : List Int) (ys : List Int) (jg : Int) (gw : Int) : St := ⟨u018 49 0 [1, 2, 4, 7, 8, 9, 17, 37, 38] [(.int .i64 j4), (.ptr 0 0 0 16), (.ptr 1 0 0 16), (.ptr 2 0 0 16), (.int .i64 w7), (.int .i64 jg), (.int .i64 gf), (.bools 4 vr), (.int .i64 gw)], [(.var 16 (.ri .i64 b15)), (.var 16 (.ri .i64 [(0 : Int), (0 : Int), (0 : Int), (0 : Int), (0 : Int), (0 : Int), (0 : Int), (0 : Int), (0 : Int), (0 : Int), (0 : Int), (0 : Int), (0 : Int), (0 : Int), (0 : Int), (0 : Int)])), (.var 16 (.ri .i64 ys))], 0, []⟩
def k48_o8 (j4 : Int) (w7 : Int) (gf : Int) (vr : List Bool) (b15 : List Int) (ys : List Int) (x : Int) : GT := (.out (.exit 2 ⟨u018 49 0 [1, 2, 4, 7, 8, 9, 17] [(.int .i64 j4), (.ptr 0 0 0 16), (.ptr 1 0 0 16), (.ptr 2 0 0 16), (.int .i64 w7), (.int .i64 x), (.int .i64 gf)], [(.var 16 (.ri .i64 b15)), (.var 16 (.ri .i64 [(0 : Int), (0 : Int), (0 : Int), (0 : Int), (0 : Int), (0 : Int), (0 : Int), (0 : Int), (0 : Int), (0 : Int), (0 : Int), (0 : Int), (0 : Int), (0 : Int), (0 : Int), (0 : Int)])), (.var 16 (.ri .i64 ys))], 0, []⟩))
def k48_ls8 (F : Nat) : LoopS := ⟨49, [1, 2, 4, 7, 8, 9, 17, 37, 38], [], [1, 2, 4, 7, 8, 9, 17], [], [4, 5, 6], [], [], fun vals mem np killed => match vals, mem, np, killed with
  | [(.int .i64 j4), (.ptr 0 0 0 16), (.ptr 1 0 0 16), (.ptr 2 0 0 16), (.int .i64 w7), (.int .i64 jg), (.int .i64 gf), (.bools 4 vr), (.int .i64 gw)], [(.var 16 (.ri .i64 b15)), (.var 16 (.ri .i64 q_t416)), (.var 16 (.ri .i64 ys))], 0, [] => .br ((q_t416 == ([(0 : Int), (0 : Int), (0 : Int), (0 : Int), (0 : Int), (0 : Int), (0 : Int), (0 : Int), (0 : Int), (0 : Int), (0 : Int), (0 : Int), (0 : Int), (0 : Int), (0 : Int), (0 : Int)] : List Int)) && (k48_l8 F j4 w7 gf vr b15 ys jg gw).isSome) (k48_o8 j4 w7 gf vr b15 ys ((k48_l8 F j4 w7 gf vr b15 ys jg gw).getD default)) .fail
  | _, _, _, _ => .fail⟩
theorem k48_step8 (F : Nat) (j4 : Int) (w7 : Int) (gf : Int) (vr : List Bool) (b15 : List Int) (ys : List Int) (jg : Int) (gw : Int) {R : Type} (k : Out → Option R) : stepS tt (k48_tab F) (k48_LS0 F) 70 (k48_ls8 F) (u010 8 (u000 Tryz.f55)) (k48_st8 j4 w7 gf vr b15 ys jg gw) k = k48_s8 F j4 w7 gf vr b15 ys R (jg, gw) (fun s => k (.norm (k48_st8 j4 w7 gf vr b15 ys s.1 s.2))) (fun x => (k48_o8 j4 w7 gf vr b15 ys x).run k) := by kernel_rfl
theorem k48_iter8 (F : Nat) (j4 : Int) (w7 : Int) (gf : Int) (vr : List Bool) (b15 : List Int) (ys : List Int) {R : Type} (k : Out → Option R) : ∀ (n : Nat) (jg : Int) (gw : Int), iterS tt (k48_tab F) (k48_LS0 F) 70 (k48_ls8 F) (u010 8 (u000 Tryz.f55)) n (k48_st8 j4 w7 gf vr b15 ys jg gw) k = loopC (k48_s8 F j4 w7 gf vr b15 ys) n (jg, gw) (fun x => (k48_o8 j4 w7 gf vr b15 ys x).run k)
  | 0, jg, gw => rfl
  | n + 1, jg, gw => (u017 tt (k48_tab F) (k48_LS0 F) 70 (k48_ls8 F) (u010 8 (u000 Tryz.f55)) n (k48_st8 j4 w7 gf vr b15 ys jg gw) k).trans ((k48_step8 F j4 w7 gf vr b15 ys jg gw (nextK (iterS tt (k48_tab F) (k48_LS0 F) 70 (k48_ls8 F) (u010 8 (u000 Tryz.f55)) n) k)).trans (congrArg (fun kn => k48_s8 F j4 w7 gf vr b15 ys R (jg, gw) kn _) (funext (fun ⟨jg, gw⟩ => k48_iter8 F j4 w7 gf vr b15 ys k n jg gw))))
theorem k48_lok8 (F : Nat) : u041 Tryz.prog (u010 8 (u000 Tryz.f55)) (k48_ls8 F) := by
  refine u019 mixed ttok deep (k48_tabok F) (u016 (k48_lsok0 F) 8) (fuel := 70) fun R vals mem np killed k x h => ?_
  simp only [k48_ls8] at h
  split at h
  · rename_i j4 w7 jg gf vr gw b15 q_t416 ys
    simp only [GT.run] at h
    have hc := (u007 h).1
    replace h := (u007 h).2
    have hg := (u013 hc).1
    replace hc := (u013 hc).2
    obtain rfl := u208 hg
    refine ⟨F, (k48_iter8 F j4 w7 gf vr b15 ys k F jg gw).trans ((u020 (k48_s8_nat F j4 w7 gf vr b15 ys) hc _).trans h)⟩
  · simp only [GT.run] at h
    cases h
noncomputable def k48_LS1 (F : Nat) : LT := (8, k48_ls8 F) :: k48_LS0 F
theorem k48_lsok1 (F : Nat) : u011 Tryz.prog (k48_LS1 F) (u000 Tryz.f55) := u012 k48_keys (k48_lok8 F) (k48_lsok0 F)
def k48_st3 (j4 : Int) (b13 : List Int) (w7 : Int) (jg : Int) (gf : Int) (j8 : List Int) : St := ⟨u018 49 0 [1, 2, 4, 7, 8, 9, 17] [(.int .i64 j4), (.ptr 0 0 0 16), (.ptr 1 0 0 16), (.ptr 2 0 0 16), (.int .i64 w7), (.int .i64 jg), (.int .i64 gf)], [(.var 16 (.ri .i64 b13)), (.var 16 (.ri .i64 [(0 : Int), (0 : Int), (0 : Int), (0 : Int), (0 : Int), (0 : Int), (0 : Int), (0 : Int), (0 : Int), (0 : Int), (0 : Int), (0 : Int), (0 : Int), (0 : Int), (0 : Int), (0 : Int)])), (.var 16 (.ri .i64 j8))], 0, []⟩
def k48_o3 (j4 : Int) (b13 : List Int) (x : Int × Int × List Int) : GT := (.out (.exit 0 ⟨u018 49 0 [4, 7, 8, 9] [(.ptr 0 0 0 16), (.ptr 1 0 0 16), (.int .i64 x.1), (.int .i64 x.2.1)], [(.var 16 (.ri .i64 [(0 : Int), (0 : Int), (0 : Int), (0 : Int), (0 : Int), (0 : Int), (0 : Int), (0 : Int), (0 : Int), (0 : Int), (0 : Int), (0 : Int), (0 : Int), (0 : Int), (0 : Int), (0 : Int)])), (.var 16 (.ri .i64 x.2.2))], 0, []⟩))
def k48_ls3 (F : Nat) : LoopS := ⟨49, [1, 2, 4, 7, 8, 9, 17], [], [4, 7, 8, 9], [], [4, 5, 6], [], [], fun vals mem np killed => match vals, mem, np, killed with
  | [(.int .i64 j4), (.ptr 0 0 0 16), (.ptr 1 0 0 16), (.ptr 2 0 0 16), (.int .i64 w7), (.int .i64 jg), (.int .i64 gf)], [(.var 16 (.ri .i64 b13)), (.var 16 (.ri .i64 q_t414)), (.var 16 (.ri .i64 j8))], 0, [] => .br ((q_t414 == ([(0 : Int), (0 : Int), (0 : Int), (0 : Int), (0 : Int), (0 : Int), (0 : Int), (0 : Int), (0 : Int), (0 : Int), (0 : Int), (0 : Int), (0 : Int), (0 : Int), (0 : Int), (0 : Int)] : List Int)) && (k48_l3 F j4 b13 w7 jg gf j8).isSome) (k48_o3 j4 b13 ((k48_l3 F j4 b13 w7 jg gf j8).getD default)) .fail
  | _, _, _, _ => .fail⟩
theorem k48_step3 (F : Nat) (j4 : Int) (b13 : List Int) (w7 : Int) (jg : Int) (gf : Int) (j8 : List Int) {R : Type} (k : Out → Option R) : stepS tt (k48_tab F) (k48_LS1 F) 70 (k48_ls3 F) (u010 3 (u000 Tryz.f55)) (k48_st3 j4 b13 w7 jg gf j8) k = k48_s3 F j4 b13 R (w7, jg, gf, j8) (fun s => k (.norm (k48_st3 j4 b13 s.1 s.2.1 s.2.2.1 s.2.2.2))) (fun x => (k48_o3 j4 b13 x).run k) := by kernel_rfl
theorem k48_iter3 (F : Nat) (j4 : Int) (b13 : List Int) {R : Type} (k : Out → Option R) : ∀ (n : Nat) (w7 : Int) (jg : Int) (gf : Int) (j8 : List Int), iterS tt (k48_tab F) (k48_LS1 F) 70 (k48_ls3 F) (u010 3 (u000 Tryz.f55)) n (k48_st3 j4 b13 w7 jg gf j8) k = loopC (k48_s3 F j4 b13) n (w7, jg, gf, j8) (fun x => (k48_o3 j4 b13 x).run k)
  | 0, w7, jg, gf, j8 => rfl
  | n + 1, w7, jg, gf, j8 => (u017 tt (k48_tab F) (k48_LS1 F) 70 (k48_ls3 F) (u010 3 (u000 Tryz.f55)) n (k48_st3 j4 b13 w7 jg gf j8) k).trans ((k48_step3 F j4 b13 w7 jg gf j8 (nextK (iterS tt (k48_tab F) (k48_LS1 F) 70 (k48_ls3 F) (u010 3 (u000 Tryz.f55)) n) k)).trans (congrArg (fun kn => k48_s3 F j4 b13 R (w7, jg, gf, j8) kn _) (funext (fun ⟨w7, jg, gf, j8⟩ => k48_iter3 F j4 b13 k n w7 jg gf j8))))
theorem k48_lok3 (F : Nat) : u041 Tryz.prog (u010 3 (u000 Tryz.f55)) (k48_ls3 F) := by
  refine u019 mixed ttok deep (k48_tabok F) (u016 (k48_lsok1 F) 3) (fuel := 70) fun R vals mem np killed k x h => ?_
  simp only [k48_ls3] at h
  split at h
  · rename_i j4 w7 jg gf b13 q_t414 j8
    simp only [GT.run] at h
    have hc := (u007 h).1
    replace h := (u007 h).2
    have hg := (u013 hc).1
    replace hc := (u013 hc).2
    obtain rfl := u208 hg
    refine ⟨F, (k48_iter3 F j4 b13 k F w7 jg gf j8).trans ((u020 (k48_s3_nat F j4 b13) hc _).trans h)⟩
  · simp only [GT.run] at h
    cases h
noncomputable def k48_LS2 (F : Nat) : LT := (3, k48_ls3 F) :: k48_LS1 F
theorem k48_lsok2 (F : Nat) : u011 Tryz.prog (k48_LS2 F) (u000 Tryz.f55) := u012 k48_keys (k48_lok3 F) (k48_lsok1 F)
theorem k48_run (F : Nat) (b0 : List Int) (j1 : Int) : runS tt (k48_tab F) (k48_LS2 F) [] [] Tryz.f55 (u000 Tryz.f55) 70 [(.ints 16 b0), (.int .i64 j1)] [] = k48_c _ F b0 j1 (fun r => some ⟨(.tup [(.ints 16 r.1), (.int .i64 r.2.1), (.int .i64 r.2.2)]), [], []⟩) := by kernel_rfl
def k48_ent (F : Nat) : Ent := ⟨[], .quiet, fun args mem => match args, mem with
  | [(.ints 16 b0), (.int .i64 j1)], [] => some ((k48_p F b0 j1).isSome, ⟨(.tup [(.ints 16 ((k48_p F b0 j1).getD default).1), (.int .i64 ((k48_p F b0 j1).getD default).2.1), (.int .i64 ((k48_p F b0 j1).getD default).2.2)]), [], []⟩)
  | _, _ => none⟩
theorem k48_fok : FunOK Tryz.prog 55 := funOK Tryz.func55 (by kernel_rfl) rfl
theorem k48_meets (F : Nat) : Meets Tryz.prog 55 (k48_ent F) := by
  refine u002 mixed ttok deep (k48_tabok F) Tryz.func55 (u009 rfl) (k48_lsok2 F) fun args mem hfit ret h => ?_
  clear hfit
  simp only [k48_ent] at h
  split at h
  · rename_i b0 j1
    simp only [Option.some.injEq, Prod.mk.injEq] at h
    obtain ⟨hc, rfl⟩ := h
    exact ⟨[], [], 70, _, (k48_run F b0 j1).trans ((k48_cp _ F b0 j1 _).trans (u014 hc _)), rfl, rfl, rfl⟩
  · cases h
noncomputable def k33_tab (F : Nat) : Tab := [(55, (k48_ent F))]
theorem k33_tabok (F : Nat) : TabOK Tryz.prog (k33_tab F) := (u001 (k48_meets F) k48_fok u015)
noncomputable def k33_LS0 (F : Nat) : LT := []
theorem k33_lsok0 (F : Nat) : u011 Tryz.prog (k33_LS0 F) (u000 Tryz.f61) := u005
theorem k33_keys : u059 (u000 Tryz.f61) = true := by kernel_rfl
def k33_st2 (t76 : List Int) (t87 : Int) (t98 : Int) (b9 : List Int) : St := ⟨u018 22 0 [2, 4, 7, 8, 9] [(.ptr 0 0 0 16), (.ptr 1 0 0 16), (.ri .i64 t76), (.int .i64 t87), (.int .i64 t98)], [(.var 16 (.ri .i64 b9)), (.var 16 (.ri .i64 [(0 : Int), (0 : Int), (0 : Int), (0 : Int), (0 : Int), (0 : Int), (0 : Int), (0 : Int), (0 : Int), (0 : Int), (0 : Int), (0 : Int), (0 : Int), (0 : Int), (0 : Int), (0 : Int)]))], 0, []⟩
def k33_o2 (t76 : List Int) (t87 : Int) (x : List Int) : GT := (.out (.exit 0 ⟨u018 22 0 [2, 4] [(.ptr 0 0 0 16), (.ptr 1 0 0 16)], [(.var 16 (.ri .i64 x)), (.var 16 (.ri .i64 [(0 : Int), (0 : Int), (0 : Int), (0 : Int), (0 : Int), (0 : Int), (0 : Int), (0 : Int), (0 : Int), (0 : Int), (0 : Int), (0 : Int), (0 : Int), (0 : Int), (0 : Int), (0 : Int)]))], 0, []⟩))
def k33_ls2 (F : Nat) : LoopS := ⟨22, [2, 4, 7, 8, 9], [], [2, 4], [], [4], [], [], fun vals mem np killed => match vals, mem, np, killed with
  | [(.ptr 0 0 0 16), (.ptr 1 0 0 16), (.ri .i64 t76), (.int .i64 t87), (.int .i64 t98)], [(.var 16 (.ri .i64 b9)), (.var 16 (.ri .i64 q_t410))], 0, [] => .br ((q_t410 == ([(0 : Int), (0 : Int), (0 : Int), (0 : Int), (0 : Int), (0 : Int), (0 : Int), (0 : Int), (0 : Int), (0 : Int), (0 : Int), (0 : Int), (0 : Int), (0 : Int), (0 : Int), (0 : Int)] : List Int)) && (k33_l2 F t76 t87 t98 b9).isSome) (k33_o2 t76 t87 ((k33_l2 F t76 t87 t98 b9).getD default)) .fail
  | _, _, _, _ => .fail⟩
theorem k33_step2 (F : Nat) (t76 : List Int) (t87 : Int) (t98 : Int) (b9 : List Int) {R : Type} (k : Out → Option R) : stepS tt (k33_tab F) (k33_LS0 F) 70 (k33_ls2 F) (u010 2 (u000 Tryz.f61)) (k33_st2 t76 t87 t98 b9) k = k33_s2 F t76 t87 R (t98, b9) (fun s => k (.norm (k33_st2 t76 t87 s.1 s.2))) (fun x => (k33_o2 t76 t87 x).run k) := by kernel_rfl
theorem k33_iter2 (F : Nat) (t76 : List Int) (t87 : Int) {R : Type} (k : Out → Option R) : ∀ (n : Nat) (t98 : Int) (b9 : List Int), iterS tt (k33_tab F) (k33_LS0 F) 70 (k33_ls2 F) (u010 2 (u000 Tryz.f61)) n (k33_st2 t76 t87 t98 b9) k = loopC (k33_s2 F t76 t87) n (t98, b9) (fun x => (k33_o2 t76 t87 x).run k)
  | 0, t98, b9 => rfl
  | n + 1, t98, b9 => (u017 tt (k33_tab F) (k33_LS0 F) 70 (k33_ls2 F) (u010 2 (u000 Tryz.f61)) n (k33_st2 t76 t87 t98 b9) k).trans ((k33_step2 F t76 t87 t98 b9 (nextK (iterS tt (k33_tab F) (k33_LS0 F) 70 (k33_ls2 F) (u010 2 (u000 Tryz.f61)) n) k)).trans (congrArg (fun kn => k33_s2 F t76 t87 R (t98, b9) kn _) (funext (fun ⟨t98, b9⟩ => k33_iter2 F t76 t87 k n t98 b9))))
theorem k33_lok2 (F : Nat) : u041 Tryz.prog (u010 2 (u000 Tryz.f61)) (k33_ls2 F) := by
  refine u019 mixed ttok deep (k33_tabok F) (u016 (k33_lsok0 F) 2) (fuel := 70) fun R vals mem np killed k x h => ?_
  simp only [k33_ls2] at h
  split at h
  · rename_i t76 t87 t98 b9 q_t410
    simp only [GT.run] at h
    have hc := (u007 h).1
    replace h := (u007 h).2
    have hg := (u013 hc).1
    replace hc := (u013 hc).2
    obtain rfl := u208 hg
    refine ⟨F, (k33_iter2 F t76 t87 k F t98 b9).trans ((u020 (k33_s2_nat F t76 t87) hc _).trans h)⟩
  · simp only [GT.run] at h
    cases h
noncomputable def k33_LS1 (F : Nat) : LT := (2, k33_ls2 F) :: k33_LS0 F
theorem k33_lsok1 (F : Nat) : u011 Tryz.prog (k33_LS1 F) (u000 Tryz.f61) := u012 k33_keys (k33_lok2 F) (k33_lsok0 F)
theorem k33_run (F : Nat) (b0 : List Int) (list1 : List Int) : runS tt (k33_tab F) (k33_LS1 F) [] [] Tryz.f61 (u000 Tryz.f61) 70 [(.ints 16 b0), (.ri .i64 list1)] [] = k33_c _ F b0 list1 (fun r => some ⟨(.ints 16 r), [], []⟩) := by kernel_rfl
def k33_ent (F : Nat) : Ent := ⟨[], .quiet, fun args mem => match args, mem with
  | [(.ints 16 b0), (.ri .i64 list1)], [] => some ((k33_p F b0 list1).isSome, ⟨(.ints 16 ((k33_p F b0 list1).getD default)), [], []⟩)
  | _, _ => none⟩
theorem k33_fok : FunOK Tryz.prog 61 := funOK Tryz.func61 (by kernel_rfl) rfl
theorem k33_meets (F : Nat) : Meets Tryz.prog 61 (k33_ent F) := by
  refine u002 mixed ttok deep (k33_tabok F) Tryz.func61 (u009 rfl) (k33_lsok1 F) fun args mem hfit ret h => ?_
  clear hfit
  simp only [k33_ent] at h
  split at h
  · rename_i b0 list1
    simp only [Option.some.injEq, Prod.mk.injEq] at h
    obtain ⟨hc, rfl⟩ := h
    exact ⟨[], [], 70, _, (k33_run F b0 list1).trans ((k33_cp _ F b0 list1 _).trans (u014 hc _)), rfl, rfl, rfl⟩
  · cases h
noncomputable def k21_tab (F : Nat) : Tab := [(32, (k22_ent F)), (61, (k33_ent F))]
theorem k21_tabok (F : Nat) : TabOK Tryz.prog (k21_tab F) := (u001 (k22_meets F) k22_fok (u001 (k33_meets F) k33_fok u015))
noncomputable def k21_LS0 (F : Nat) : LT := []
theorem k21_lsok0 (F : Nat) : u011 Tryz.prog (k21_LS0 F) (u000 Tryz.f31) := u005
theorem k21_run (F : Nat) (b0 : List Int) (j1 : Int) : runS tt (k21_tab F) (k21_LS0 F) [] [] Tryz.f31 (u000 Tryz.f31) 70 [(.ints 16 b0), (.int .i64 j1)] [] = k21_c _ F b0 j1 (fun r => some ⟨(.int .i64 r), [], []⟩) := by kernel_rfl
def k21_ent (F : Nat) : Ent := ⟨[], .quiet, fun args mem => match args, mem with
  | [(.ints 16 b0), (.int .i64 j1)], [] => some ((k21_p F b0 j1).isSome, ⟨(.int .i64 ((k21_p F b0 j1).getD default)), [], []⟩)
  | _, _ => none⟩
theorem k21_fok : FunOK Tryz.prog 31 := funOK Tryz.func31 (by kernel_rfl) rfl
theorem k21_meets (F : Nat) : Meets Tryz.prog 31 (k21_ent F) := by
  refine u002 mixed ttok deep (k21_tabok F) Tryz.func31 (u009 rfl) (k21_lsok0 F) fun args mem hfit ret h => ?_
  clear hfit
  simp only [k21_ent] at h
  split at h
  · rename_i b0 j1
    simp only [Option.some.injEq, Prod.mk.injEq] at h
    obtain ⟨hc, rfl⟩ := h
    exact ⟨[], [], 70, _, (k21_run F b0 j1).trans ((k21_cp _ F b0 j1 _).trans (u014 hc _)), rfl, rfl, rfl⟩
  · cases h
noncomputable def k26_tab (F : Nat) : Tab := []
theorem k26_tabok (F : Nat) : TabOK Tryz.prog (k26_tab F) := u015
noncomputable def k26_LS0 (F : Nat) : LT := []
theorem k26_lsok0 (F : Nat) : u011 Tryz.prog (k26_LS0 F) (u000 Tryz.f36) := u005
theorem k26_run (F : Nat) (gz : List Int) (a14 : List Int) : runS tt (k26_tab F) (k26_LS0 F) [] [] Tryz.f36 (u000 Tryz.f36) 70 [(.ints 16 gz), (.ptr 0 0 0 16)] [(.var 16 (.ri .i64 a14))] = k26_c _ gz a14 (fun r => some ⟨(.bool r), [(.var 16 (.ri .i64 a14))], []⟩) := by kernel_rfl
def k26_ent (F : Nat) : Ent := ⟨[], .quiet, fun args mem => match args, mem with
  | [(.ints 16 gz), (.ptr 0 0 0 16)], [(.var 16 (.ri .i64 a14))] => some (true, ⟨(.bool (k26_v gz a14)), [], []⟩)
  | _, _ => none⟩
theorem k26_fok : FunOK Tryz.prog 36 := funOK Tryz.func36 (by kernel_rfl) rfl
theorem k26_meets (F : Nat) : Meets Tryz.prog 36 (k26_ent F) := by
  refine u002 mixed ttok deep (k26_tabok F) Tryz.func36 (u009 rfl) (k26_lsok0 F) fun args mem hfit ret h => ?_
  clear hfit
  simp only [k26_ent] at h
  split at h
  · rename_i gz a14
    simp only [Option.some.injEq, Prod.mk.injEq] at h
    obtain ⟨hc, rfl⟩ := h
    exact ⟨[], [], 70, _, (k26_run F gz a14).trans (k26_cv _ gz a14 _), rfl, rfl, rfl⟩
  · cases h
end Go.Proofs.YtabfliifleonaakGreat
