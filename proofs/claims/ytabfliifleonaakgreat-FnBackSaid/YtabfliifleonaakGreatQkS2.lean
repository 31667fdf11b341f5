/-
Pure functions and what the code of them does, by program; without conditions.
-/
import Derived.Test.YtabfliifleonaakGreatQkP2
import Derived.Test.YtabfliifleonaakGreatQkS1
namespace Go.Proofs.YtabfliifleonaakGreat
open Go Go.Lv Go.Lv.P Go.Proofs
set_option linter.unusedVariables false
set_option linter.unusedSimpArgs false
set_option maxRecDepth 100000
noncomputable def k16_tab (F : Nat) : Tab := [(100, (k18_ent F)), (104, (k84_ent F))]
theorem k16_tabok (F : Nat) : TabOK Tryz.prog (k16_tab F) := (u001 (k18_meets F) k18_fok (u001 (k84_meets F) k84_fok u015))
noncomputable def k16_LS0 (F : Nat) : LT := []
theorem k16_lsok0 (F : Nat) : u011 Tryz.prog (k16_LS0 F) (u000 Tryz.f103) := u005
theorem k16_keys : u059 (u000 Tryz.f103) = true := by kernel_rfl
def k16_st5 (s1 : Nat) (i2 : Int) (j3 : Int) (s4 : List Int) : St := ⟨u018 42 0 [0, 1, 5, 6] [(.sl 0 0 s1), (.fn 104 [] []), (.int .i64 i2), (.int .i64 j3)], [(.vec 3 (.ri .i64 s4))], 1, []⟩
def k16_o5 (s1 : Nat) (x : Int × List Int) : GT := (.out (.exit 0 ⟨u018 42 0 [0, 5] [(.sl 0 0 s1), (.int .i64 x.1)], [(.vec 3 (.ri .i64 x.2))], 1, []⟩))
def k16_ls5 (F : Nat) : LoopS := ⟨42, [0, 1, 5, 6], [], [0, 5], [], [4], [], [], fun vals mem np killed => match vals, mem, np, killed with
  | [(.sl 0 0 s1), (.fn 104 [] []), (.int .i64 i2), (.int .i64 j3)], [(.vec 3 (.ri .i64 s4))], 1, [] => .br (k16_l5 F s1 i2 j3 s4).isSome (k16_o5 s1 ((k16_l5 F s1 i2 j3 s4).getD default)) .fail
  | _, _, _, _ => .fail⟩
theorem k16_step5 (F : Nat) (s1 : Nat) (i2 : Int) (j3 : Int) (s4 : List Int) {R : Type} (k : Out → Option R) : stepS tt (k16_tab F) (k16_LS0 F) 70 (k16_ls5 F) (u010 5 (u000 Tryz.f103)) (k16_st5 s1 i2 j3 s4) k = k16_s5 F s1 R (i2, j3, s4) (fun s => k (.norm (k16_st5 s1 s.1 s.2.1 s.2.2))) (fun x => (k16_o5 s1 x).run k) := by kernel_rfl
theorem k16_iter5 (F : Nat) (s1 : Nat) {R : Type} (k : Out → Option R) : ∀ (n : Nat) (i2 : Int) (j3 : Int) (s4 : List Int), iterS tt (k16_tab F) (k16_LS0 F) 70 (k16_ls5 F) (u010 5 (u000 Tryz.f103)) n (k16_st5 s1 i2 j3 s4) k = loopC (k16_s5 F s1) n (i2, j3, s4) (fun x => (k16_o5 s1 x).run k)
  | 0, i2, j3, s4 => rfl
  | n + 1, i2, j3, s4 => (u017 tt (k16_tab F) (k16_LS0 F) 70 (k16_ls5 F) (u010 5 (u000 Tryz.f103)) n (k16_st5 s1 i2 j3 s4) k).trans ((k16_step5 F s1 i2 j3 s4 (nextK (iterS tt (k16_tab F) (k16_LS0 F) 70 (k16_ls5 F) (u010 5 (u000 Tryz.f103)) n) k)).trans (congrArg (fun kn => k16_s5 F s1 R (i2, j3, s4) kn _) (funext (fun ⟨i2, j3, s4⟩ => k16_iter5 F s1 k n i2 j3 s4))))
theorem k16_lok5 (F : Nat) : u041 Tryz.prog (u010 5 (u000 Tryz.f103)) (k16_ls5 F) := by
  refine u019 mixed ttok deep (k16_tabok F) (u016 (k16_lsok0 F) 5) (fuel := 70) fun R vals mem np killed k x h => ?_
  simp only [k16_ls5] at h
  split at h
  · rename_i s1 i2 j3 s4
    simp only [GT.run] at h
    have hc := (u007 h).1
    replace h := (u007 h).2
    refine ⟨F, (k16_iter5 F s1 k F i2 j3 s4).trans ((u020 (k16_s5_nat F s1) hc _).trans h)⟩
  · simp only [GT.run] at h
    cases h
noncomputable def k16_LS1 (F : Nat) : LT := (5, k16_ls5 F) :: k16_LS0 F
theorem k16_lsok1 (F : Nat) : u011 Tryz.prog (k16_LS1 F) (u000 Tryz.f103) := u012 k16_keys (k16_lok5 F) (k16_lsok0 F)
theorem k16_run (F : Nat) (s2 : List Int) : runS tt (k16_tab F) (k16_LS1 F) [] [] Tryz.f103 (u000 Tryz.f103) 70 [(.sl 0 0 (List.length s2)), (.fn 104 [] [])] [(.vec 3 (.ri .i64 s2))] = k16_c _ F s2 (fun r => some ⟨(.sl 0 0 r.1), [(.vec 3 (.ri .i64 r.2))], []⟩) := by kernel_rfl
def k16_ent (F : Nat) : Ent := ⟨[true], .loud, fun args mem => match args, mem with
  | [(.sl 0 0 q_s1), (.fn 104 [] [])], [(.vec 3 (.ri .i64 s2))] => some (((Nat.beq q_s1 (List.length s2)) && (k16_p F s2).isSome), ⟨(.sl 0 0 ((k16_p F s2).getD default).1), [(.vec 3 (.ri .i64 ((k16_p F s2).getD default).2))], []⟩)
  | _, _ => none⟩
theorem k16_fok : FunOK Tryz.prog 103 := funOK Tryz.func103 (by kernel_rfl) rfl
theorem k16_meets (F : Nat) : Meets Tryz.prog 103 (k16_ent F) := by
  refine u002 mixed ttok deep (k16_tabok F) Tryz.func103 (u009 rfl) (k16_lsok1 F) fun args mem hfit ret h => ?_
  clear hfit
  simp only [k16_ent] at h
  split at h
  · rename_i q_s1 s2
    simp only [Option.some.injEq, Prod.mk.injEq] at h
    obtain ⟨hc, rfl⟩ := h
    have hg := (u013 hc).1
    replace hc := (u013 hc).2
    obtain rfl := u032 hg
    exact ⟨[], [], 70, _, (k16_run F s2).trans ((k16_cp _ F s2 _).trans (u014 hc _)), rfl, rfl, rfl⟩
  · cases h
noncomputable def k120_tab (F : Nat) : Tab := [(102, (u025 F)), (103, (k16_ent F))]
theorem k120_tabok (F : Nat) : TabOK Tryz.prog (k120_tab F) := (u001 (u023 F) u027 (u001 (k16_meets F) k16_fok u015))
noncomputable def k120_LS0 (F : Nat) : LT := []
theorem k120_lsok0 (F : Nat) : u011 Tryz.prog (k120_LS0 F) (u000 Tryz.f86) := u005
theorem k120_run (F : Nat) (w4 : List Int) : runS tt (k120_tab F) (k120_LS0 F) [] [] Tryz.f86 (u000 Tryz.f86) 70 [(.ints 4 w4)] [] = k120_c _ F w4 (fun r => some ⟨(.sl 0 0 r.1), [(.vec 3 (.ri .i64 r.2))], []⟩) := by kernel_rfl
def k120_ent (F : Nat) : Ent := ⟨[], .fresh, fun args mem => match args, mem with
  | [(.ints 4 w4)], [] => some ((k120_p F w4).isSome, ⟨(.sl 0 0 ((k120_p F w4).getD default).1), [(.vec 3 (.ri .i64 ((k120_p F w4).getD default).2))], []⟩)
  | _, _ => none⟩
theorem k120_fok : FunOK Tryz.prog 86 := funOK Tryz.func86 (by kernel_rfl) rfl
theorem k120_meets (F : Nat) : Meets Tryz.prog 86 (k120_ent F) := by
  refine u002 mixed ttok deep (k120_tabok F) Tryz.func86 (u009 rfl) (k120_lsok0 F) fun args mem hfit ret h => ?_
  clear hfit
  simp only [k120_ent] at h
  split at h
  · rename_i w4
    simp only [Option.some.injEq, Prod.mk.injEq] at h
    obtain ⟨hc, rfl⟩ := h
    exact ⟨[], [], 70, _, (k120_run F w4).trans ((k120_cp _ F w4 _).trans (u014 hc _)), rfl, rfl, rfl⟩
  · cases h
noncomputable def k30_tab (F : Nat) : Tab := []
theorem k30_tabok (F : Nat) : TabOK Tryz.prog (k30_tab F) := u015
noncomputable def k30_LS0 (F : Nat) : LT := []
theorem k30_lsok0 (F : Nat) : u011 Tryz.prog (k30_LS0 F) (u000 Tryz.f101) := u005
theorem k30_keys : u059 (u000 Tryz.f101) = true := by kernel_rfl
def k30_st4 (s10 : List Int) (s21 : List Int) (jp : Int) (gp : Int) : St := ⟨u018 26 0 [0, 1, 12, 13] [(.ri .i64 s10), (.ri .i64 s21), (.int .i64 jp), (.int .i64 gp)], [], 0, []⟩
def k30_o4 (s10 : List Int) (s21 : List Int) (jp : Int) (x : Bool) : GT := (.br x (.out (.ret ⟨u018 26 0 [4] [(.bool false)], [], 0, []⟩)) (.out (.exit 0 ⟨u018 26 0 [] [], [], 0, []⟩)))
def k30_ls4 (F : Nat) : LoopS := ⟨26, [0, 1, 12, 13], [], [], [], [4], [], [], fun vals mem np killed => match vals, mem, np, killed with
  | [(.ri .i64 s10), (.ri .i64 s21), (.int .i64 jp), (.int .i64 gp)], [], 0, [] => .br (k30_l4 F s10 s21 jp gp).isSome (k30_o4 s10 s21 jp ((k30_l4 F s10 s21 jp gp).getD default)) .fail
  | _, _, _, _ => .fail⟩
theorem k30_step4 (F : Nat) (s10 : List Int) (s21 : List Int) (jp : Int) (gp : Int) {R : Type} (k : Out → Option R) : stepS tt (k30_tab F) (k30_LS0 F) 70 (k30_ls4 F) (u010 4 (u000 Tryz.f101)) (k30_st4 s10 s21 jp gp) k = k30_s4 F s10 s21 jp R gp (fun s => k (.norm (k30_st4 s10 s21 jp s))) (fun x => (k30_o4 s10 s21 jp x).run k) := by kernel_rfl
theorem k30_iter4 (F : Nat) (s10 : List Int) (s21 : List Int) (jp : Int) {R : Type} (k : Out → Option R) : ∀ (n : Nat) (gp : Int), iterS tt (k30_tab F) (k30_LS0 F) 70 (k30_ls4 F) (u010 4 (u000 Tryz.f101)) n (k30_st4 s10 s21 jp gp) k = loopC (k30_s4 F s10 s21 jp) n gp (fun x => (k30_o4 s10 s21 jp x).run k)
  | 0, gp => rfl
  | n + 1, gp => (u017 tt (k30_tab F) (k30_LS0 F) 70 (k30_ls4 F) (u010 4 (u000 Tryz.f101)) n (k30_st4 s10 s21 jp gp) k).trans ((k30_step4 F s10 s21 jp gp (nextK (iterS tt (k30_tab F) (k30_LS0 F) 70 (k30_ls4 F) (u010 4 (u000 Tryz.f101)) n) k)).trans (congrArg (fun kn => k30_s4 F s10 s21 jp R gp kn _) (funext (fun gp => k30_iter4 F s10 s21 jp k n gp))))
theorem k30_lok4 (F : Nat) : u041 Tryz.prog (u010 4 (u000 Tryz.f101)) (k30_ls4 F) := by
  refine u019 mixed ttok deep (k30_tabok F) (u016 (k30_lsok0 F) 4) (fuel := 70) fun R vals mem np killed k x h => ?_
  simp only [k30_ls4] at h
  split at h
  · rename_i s10 s21 jp gp
    simp only [GT.run] at h
    have hc := (u007 h).1
    replace h := (u007 h).2
    refine ⟨F, (k30_iter4 F s10 s21 jp k F gp).trans ((u020 (k30_s4_nat F s10 s21 jp) hc _).trans h)⟩
  · simp only [GT.run] at h
    cases h
noncomputable def k30_LS1 (F : Nat) : LT := (4, k30_ls4 F) :: k30_LS0 F
theorem k30_lsok1 (F : Nat) : u011 Tryz.prog (k30_LS1 F) (u000 Tryz.f101) := u012 k30_keys (k30_lok4 F) (k30_lsok0 F)
theorem k30_run (F : Nat) (s10 : List Int) (s21 : List Int) : runS tt (k30_tab F) (k30_LS1 F) [] [] Tryz.f101 (u000 Tryz.f101) 70 [(.ri .i64 s10), (.ri .i64 s21)] [] = k30_c _ F s10 s21 (fun r => some ⟨(.bool r), [], []⟩) := by kernel_rfl
def k30_ent (F : Nat) : Ent := ⟨[], .quiet, fun args mem => match args, mem with
  | [(.ri .i64 s10), (.ri .i64 s21)], [] => some ((k30_p F s10 s21).isSome, ⟨(.bool ((k30_p F s10 s21).getD default)), [], []⟩)
  | _, _ => none⟩
theorem k30_fok : FunOK Tryz.prog 101 := funOK Tryz.func101 (by kernel_rfl) rfl
theorem k30_meets (F : Nat) : Meets Tryz.prog 101 (k30_ent F) := by
  refine u002 mixed ttok deep (k30_tabok F) Tryz.func101 (u009 rfl) (k30_lsok1 F) fun args mem hfit ret h => ?_
  clear hfit
  simp only [k30_ent] at h
  split at h
  · rename_i s10 s21
    simp only [Option.some.injEq, Prod.mk.injEq] at h
    obtain ⟨hc, rfl⟩ := h
    exact ⟨[], [], 70, _, (k30_run F s10 s21).trans ((k30_cp _ F s10 s21 _).trans (u014 hc _)), rfl, rfl, rfl⟩
  · cases h
noncomputable def k97_tab (F : Nat) : Tab := [(86, (k120_ent F)), (101, (k30_ent F))]
theorem k97_tabok (F : Nat) : TabOK Tryz.prog (k97_tab F) := (u001 (k120_meets F) k120_fok (u001 (k30_meets F) k30_fok u015))
noncomputable def k97_LS0 (F : Nat) : LT := []
theorem k97_lsok0 (F : Nat) : u011 Tryz.prog (k97_LS0 F) (u000 Tryz.f84) := u005
theorem k97_run (F : Nat) (w4 : List Int) : runS tt (k97_tab F) (k97_LS0 F) [] [] Tryz.f84 (u000 Tryz.f84) 70 [(.ints 4 w4)] [] = k97_c _ F w4 (fun r => some ⟨(.bool r), [], []⟩) := by kernel_rfl
def k97_ent (F : Nat) : Ent := ⟨[], .quiet, fun args mem => match args, mem with
  | [(.ints 4 w4)], [] => some ((k97_p F w4).isSome, ⟨(.bool ((k97_p F w4).getD default)), [], []⟩)
  | _, _ => none⟩
theorem k97_fok : FunOK Tryz.prog 84 := funOK Tryz.func84 (by kernel_rfl) rfl
theorem k97_meets (F : Nat) : Meets Tryz.prog 84 (k97_ent F) := by
  refine u002 mixed ttok deep (k97_tabok F) Tryz.func84 (u009 rfl) (k97_lsok0 F) fun args mem hfit ret h => ?_
  clear hfit
  simp only [k97_ent] at h
  split at h
  · rename_i w4
    simp only [Option.some.injEq, Prod.mk.injEq] at h
    obtain ⟨hc, rfl⟩ := h
    exact ⟨[], [], 70, _, (k97_run F w4).trans ((k97_cp _ F w4 _).trans (u014 hc _)), rfl, rfl, rfl⟩
  · cases h
def u030 (F : Nat) : Ent := ⟨[], .fresh, fun args mem => match args, mem with
  | [.z0], [] => some (true, ⟨.sl 0 0 0, [.vec 3 (.ri .i64 [])], []⟩)
  | _, _ => none⟩
theorem u042 : FunOK Tryz.prog 102 := funOK Tryz.func102 (by kernel_rfl) rfl
theorem u038 (F : Nat) : Meets Tryz.prog 102 (u030 F) := by
  intro fr w ρ mem args reals hw ha ret hg
  simp only [u030] at hg
  split at hg
  · simp only [Option.some.injEq, Prod.mk.injEq, true_and] at hg
    subst hg
    cases ha with
    | cons h hr =>
      cases hr
      obtain ⟨ad, rfl⟩ := h
      exact u023 F fr w ρ [] [(.ri .i64 [])] _ hw (.cons (show RoR w ρ [] [] 1 0 _ from ⟨ad, 0, rfl, Nat.le_refl _, rfl, fun h => absurd rfl h⟩) .nil) _ (by kernel_rfl)
  · cases hg
noncomputable def k59_tab (F : Nat) : Tab := [(102, (u030 F))]
theorem k59_tabok (F : Nat) : TabOK Tryz.prog (k59_tab F) := (u001 (u038 F) u042 u015)
noncomputable def k59_LS0 (F : Nat) : LT := []
theorem k59_lsok0 (F : Nat) : u011 Tryz.prog (k59_LS0 F) (u000 Tryz.f85) := u005
theorem k59_run (F : Nat) : runS tt (k59_tab F) (k59_LS0 F) [] [] Tryz.f85 (u000 Tryz.f85) 70 [.z0, .z0, (.ri .i64 ([] : List Int))] [] = k59_c _ (fun r => some ⟨(.sl 0 0 1), [(.vec 35 (.rl .i64 [([] : List Int)]))], []⟩) := by kernel_rfl
def k59_ent (F : Nat) : Ent := ⟨[true], .loud, fun args mem => match args, mem with
  | [.z0, .z0, (.ri .i64 ([] : List Int))], [] => some (true, ⟨(.sl 0 0 1), [(.vec 35 (.rl .i64 [([] : List Int)]))], []⟩)
  | _, _ => none⟩
theorem k59_fok : FunOK Tryz.prog 85 := funOK Tryz.func85 (by kernel_rfl) rfl
theorem k59_meets (F : Nat) : Meets Tryz.prog 85 (k59_ent F) := by
  refine u002 mixed ttok deep (k59_tabok F) Tryz.func85 (u009 rfl) (k59_lsok0 F) fun args mem hfit ret h => ?_
  clear hfit
  simp only [k59_ent] at h
  split at h
  · simp only [Option.some.injEq, Prod.mk.injEq] at h
    obtain ⟨hc, rfl⟩ := h
    exact ⟨[], [], 70, _, (k59_run F).trans (k59_cv _ _), rfl, rfl, rfl⟩
  · cases h
noncomputable def k35_tab (F : Nat) : Tab := [(102, (u025 F))]
theorem k35_tabok (F : Nat) : TabOK Tryz.prog (k35_tab F) := (u001 (u023 F) u027 u015)
noncomputable def k35_LS0 (F : Nat) : LT := []
theorem k35_lsok0 (F : Nat) : u011 Tryz.prog (k35_LS0 F) (u000 Tryz.f85) := u005
theorem k35_run (F : Nat) (list0 : List Int) : runS tt (k35_tab F) (k35_LS0 F) [⟨6, 35, (.rl .i64 ([] : List (List Int)))⟩] [] Tryz.f85 (u000 Tryz.f85) 70 [.z0, (.ri .i64 list0), (.ri .i64 ([] : List Int))] [] = k35_c _ list0 (fun r => some ⟨(.sl 0 0 (List.length r)), [(.vec 35 (.rl .i64 r))], []⟩) := by kernel_rfl
def k35_ent (F : Nat) : Ent := ⟨[true], .loud, fun args mem => match args, mem with
  | [.z0, (.ri .i64 list0), (.ri .i64 ([] : List Int))], [] => some ((k35_p list0).isSome, ⟨(.sl 0 0 (List.length ((k35_p list0).getD default))), [(.vec 35 (.rl .i64 ((k35_p list0).getD default)))], []⟩)
  | _, _ => none⟩
theorem k35_fok : FunOK Tryz.prog 85 := funOK Tryz.func85 (by kernel_rfl) rfl
theorem k35_meets (F : Nat) : Meets Tryz.prog 85 (k35_ent F) := by
  refine u002 mixed ttok deep (k35_tabok F) Tryz.func85 (u009 rfl) (k35_lsok0 F) fun args mem hfit ret h => ?_
  clear hfit
  simp only [k35_ent] at h
  split at h
  · rename_i list0
    simp only [Option.some.injEq, Prod.mk.injEq] at h
    obtain ⟨hc, rfl⟩ := h
    exact ⟨[⟨6, 35, (.rl .i64 ([] : List (List Int)))⟩], [], 70, _, (k35_run F list0).trans ((k35_cp _ list0 _).trans (u014 hc _)), rfl, rfl, rfl⟩
  · cases h
noncomputable def k36_tab (F : Nat) : Tab := [(102, (u025 F))]
theorem k36_tabok (F : Nat) : TabOK Tryz.prog (k36_tab F) := (u001 (u023 F) u027 u015)
noncomputable def k36_LS0 (F : Nat) : LT := []
theorem k36_lsok0 (F : Nat) : u011 Tryz.prog (k36_LS0 F) (u000 Tryz.f85) := u005
theorem k36_run (F : Nat) (list2 : List Int) (w6 : List (List Int)) : runS tt (k36_tab F) (k36_LS0 F) [] [0] Tryz.f85 (u000 Tryz.f85) 70 [(.sl 0 0 (List.length w6)), (.ri .i64 list2), (.ri .i64 ([] : List Int))] [(.vec 35 (.rl .i64 w6))] = k36_c _ list2 w6 (fun r => some ⟨(.sl 0 0 (List.length r)), [(.vec 35 (.rl .i64 r))], [0]⟩) := by kernel_rfl
def k36_ent (F : Nat) : Ent := ⟨[true], .loud, fun args mem => match args, mem with
  | [(.sl 0 0 q_out1), (.ri .i64 list2), (.ri .i64 ([] : List Int))], [(.vec 35 (.rl .i64 w6))] => some (((Nat.beq q_out1 (List.length w6)) && (k36_p list2 w6).isSome), ⟨(.sl 0 0 (List.length ((k36_p list2 w6).getD default))), [(.vec 35 (.rl .i64 ((k36_p list2 w6).getD default)))], [0]⟩)
  | _, _ => none⟩
theorem k36_fok : FunOK Tryz.prog 85 := funOK Tryz.func85 (by kernel_rfl) rfl
theorem k36_meets (F : Nat) : Meets Tryz.prog 85 (k36_ent F) := by
  refine u002 mixed ttok deep (k36_tabok F) Tryz.func85 (u009 rfl) (k36_lsok0 F) fun args mem hfit ret h => ?_
  clear hfit
  simp only [k36_ent] at h
  split at h
  · rename_i q_out1 list2 w6
    simp only [Option.some.injEq, Prod.mk.injEq] at h
    obtain ⟨hc, rfl⟩ := h
    have hg := (u013 hc).1
    replace hc := (u013 hc).2
    obtain rfl := u032 hg
    exact ⟨[], [0], 70, _, (k36_run F list2 w6).trans ((k36_cp _ list2 w6 _).trans (u014 hc _)), rfl, rfl, rfl⟩
  · cases h
noncomputable def k60_tab (F : Nat) : Tab := [(102, (u030 F)), (85, (orEnt (k35_ent F) (k36_ent F)))]
theorem k60_tabok (F : Nat) : TabOK Tryz.prog (k60_tab F) := (u001 (u038 F) u042 (u001 (u154 (k35_meets F) (k36_meets F) rfl) k35_fok u015))
noncomputable def k60_LS0 (F : Nat) : LT := []
theorem k60_lsok0 (F : Nat) : u011 Tryz.prog (k60_LS0 F) (u000 Tryz.f85) := u005
theorem k60_run (F : Nat) (rest0_0 : Int) : runS tt (k60_tab F) (k60_LS0 F) [] [] Tryz.f85 (u000 Tryz.f85) 70 [.z0, .z0, (.ri .i64 [rest0_0])] [] = k60_c _ rest0_0 (fun r => some ⟨(.sl 0 0 (List.length r)), [(.vec 35 (.rl .i64 r))], []⟩) := by kernel_rfl
def k60_ent (F : Nat) : Ent := ⟨[true], .loud, fun args mem => match args, mem with
  | [.z0, .z0, (.ri .i64 [rest0_0])], [] => some ((k60_p rest0_0).isSome, ⟨(.sl 0 0 (List.length ((k60_p rest0_0).getD default))), [(.vec 35 (.rl .i64 ((k60_p rest0_0).getD default)))], []⟩)
  | _, _ => none⟩
theorem k60_fok : FunOK Tryz.prog 85 := funOK Tryz.func85 (by kernel_rfl) rfl
theorem k60_meets (F : Nat) : Meets Tryz.prog 85 (k60_ent F) := by
  refine u002 mixed ttok deep (k60_tabok F) Tryz.func85 (u009 rfl) (k60_lsok0 F) fun args mem hfit ret h => ?_
  clear hfit
  simp only [k60_ent] at h
  split at h
  · rename_i rest0_0
    simp only [Option.some.injEq, Prod.mk.injEq] at h
    obtain ⟨hc, rfl⟩ := h
    exact ⟨[], [], 70, _, (k60_run F rest0_0).trans ((k60_cp _ rest0_0 _).trans (u014 hc _)), rfl, rfl, rfl⟩
  · cases h
noncomputable def k37_tab (F : Nat) : Tab := [(102, (u025 F)), (85, (orEnt (k35_ent F) (k36_ent F)))]
theorem k37_tabok (F : Nat) : TabOK Tryz.prog (k37_tab F) := (u001 (u023 F) u027 (u001 (u154 (k35_meets F) (k36_meets F) rfl) k35_fok u015))
noncomputable def k37_LS0 (F : Nat) : LT := []
theorem k37_lsok0 (F : Nat) : u011 Tryz.prog (k37_LS0 F) (u000 Tryz.f85) := u005
theorem k37_run (F : Nat) (list0 : List Int) (rest1_0 : Int) : runS tt (k37_tab F) (k37_LS0 F) [⟨6, 35, (.rl .i64 ([] : List (List Int)))⟩] [] Tryz.f85 (u000 Tryz.f85) 70 [.z0, (.ri .i64 list0), (.ri .i64 [rest1_0])] [] = k37_c _ list0 rest1_0 (fun r => some ⟨(.sl 0 0 (List.length r)), [(.vec 35 (.rl .i64 r))], []⟩) := by kernel_rfl
def k37_ent (F : Nat) : Ent := ⟨[true], .loud, fun args mem => match args, mem with
  | [.z0, (.ri .i64 list0), (.ri .i64 [rest1_0])], [] => some ((k37_p list0 rest1_0).isSome, ⟨(.sl 0 0 (List.length ((k37_p list0 rest1_0).getD default))), [(.vec 35 (.rl .i64 ((k37_p list0 rest1_0).getD default)))], []⟩)
  | _, _ => none⟩
theorem k37_fok : FunOK Tryz.prog 85 := funOK Tryz.func85 (by kernel_rfl) rfl
theorem k37_meets (F : Nat) : Meets Tryz.prog 85 (k37_ent F) := by
  refine u002 mixed ttok deep (k37_tabok F) Tryz.func85 (u009 rfl) (k37_lsok0 F) fun args mem hfit ret h => ?_
  clear hfit
  simp only [k37_ent] at h
  split at h
  · rename_i list0 rest1_0
    simp only [Option.some.injEq, Prod.mk.injEq] at h
    obtain ⟨hc, rfl⟩ := h
    exact ⟨[⟨6, 35, (.rl .i64 ([] : List (List Int)))⟩], [], 70, _, (k37_run F list0 rest1_0).trans ((k37_cp _ list0 rest1_0 _).trans (u014 hc _)), rfl, rfl, rfl⟩
  · cases h
noncomputable def k38_tab (F : Nat) : Tab := [(102, (u025 F)), (85, (k36_ent F))]
theorem k38_tabok (F : Nat) : TabOK Tryz.prog (k38_tab F) := (u001 (u023 F) u027 (u001 (k36_meets F) k36_fok u015))
noncomputable def k38_LS0 (F : Nat) : LT := []
theorem k38_lsok0 (F : Nat) : u011 Tryz.prog (k38_LS0 F) (u000 Tryz.f85) := u005
theorem k38_run (F : Nat) (list2 : List Int) (rest3_0 : Int) (w6 : List (List Int)) : runS tt (k38_tab F) (k38_LS0 F) [] [0] Tryz.f85 (u000 Tryz.f85) 70 [(.sl 0 0 (List.length w6)), (.ri .i64 list2), (.ri .i64 [rest3_0])] [(.vec 35 (.rl .i64 w6))] = k38_c _ list2 rest3_0 w6 (fun r => some ⟨(.sl 0 0 (List.length r)), [(.vec 35 (.rl .i64 r))], [0]⟩) := by kernel_rfl
def k38_ent (F : Nat) : Ent := ⟨[true], .loud, fun args mem => match args, mem with
  | [(.sl 0 0 q_out1), (.ri .i64 list2), (.ri .i64 [rest3_0])], [(.vec 35 (.rl .i64 w6))] => some (((Nat.beq q_out1 (List.length w6)) && (k38_p list2 rest3_0 w6).isSome), ⟨(.sl 0 0 (List.length ((k38_p list2 rest3_0 w6).getD default))), [(.vec 35 (.rl .i64 ((k38_p list2 rest3_0 w6).getD default)))], [0]⟩)
  | _, _ => none⟩
theorem k38_fok : FunOK Tryz.prog 85 := funOK Tryz.func85 (by kernel_rfl) rfl
theorem k38_meets (F : Nat) : Meets Tryz.prog 85 (k38_ent F) := by
  refine u002 mixed ttok deep (k38_tabok F) Tryz.func85 (u009 rfl) (k38_lsok0 F) fun args mem hfit ret h => ?_
  clear hfit
  simp only [k38_ent] at h
  split at h
  · rename_i q_out1 list2 rest3_0 w6
    simp only [Option.some.injEq, Prod.mk.injEq] at h
    obtain ⟨hc, rfl⟩ := h
    have hg := (u013 hc).1
    replace hc := (u013 hc).2
    obtain rfl := u032 hg
    exact ⟨[], [0], 70, _, (k38_run F list2 rest3_0 w6).trans ((k38_cp _ list2 rest3_0 w6 _).trans (u014 hc _)), rfl, rfl, rfl⟩
  · cases h
noncomputable def k61_tab (F : Nat) : Tab := [(102, (u030 F)), (85, (orEnt (k37_ent F) (k38_ent F)))]
theorem k61_tabok (F : Nat) : TabOK Tryz.prog (k61_tab F) := (u001 (u038 F) u042 (u001 (u154 (k37_meets F) (k38_meets F) rfl) k37_fok u015))
noncomputable def k61_LS0 (F : Nat) : LT := []
theorem k61_lsok0 (F : Nat) : u011 Tryz.prog (k61_LS0 F) (u000 Tryz.f85) := u005
theorem k61_run (F : Nat) (rest0_0 : Int) (rest0_1 : Int) : runS tt (k61_tab F) (k61_LS0 F) [] [] Tryz.f85 (u000 Tryz.f85) 70 [.z0, .z0, (.ri .i64 [rest0_0, rest0_1])] [] = k61_c _ rest0_0 rest0_1 (fun r => some ⟨(.sl 0 0 (List.length r)), [(.vec 35 (.rl .i64 r))], []⟩) := by kernel_rfl
def k61_ent (F : Nat) : Ent := ⟨[true], .loud, fun args mem => match args, mem with
  | [.z0, .z0, (.ri .i64 [rest0_0, rest0_1])], [] => some ((k61_p rest0_0 rest0_1).isSome, ⟨(.sl 0 0 (List.length ((k61_p rest0_0 rest0_1).getD default))), [(.vec 35 (.rl .i64 ((k61_p rest0_0 rest0_1).getD default)))], []⟩)
  | _, _ => none⟩
theorem k61_fok : FunOK Tryz.prog 85 := funOK Tryz.func85 (by kernel_rfl) rfl
theorem k61_meets (F : Nat) : Meets Tryz.prog 85 (k61_ent F) := by
  refine u002 mixed ttok deep (k61_tabok F) Tryz.func85 (u009 rfl) (k61_lsok0 F) fun args mem hfit ret h => ?_
  clear hfit
  simp only [k61_ent] at h
  split at h
  · rename_i rest0_0 rest0_1
    simp only [Option.some.injEq, Prod.mk.injEq] at h
    obtain ⟨hc, rfl⟩ := h
    exact ⟨[], [], 70, _, (k61_run F rest0_0 rest0_1).trans ((k61_cp _ rest0_0 rest0_1 _).trans (u014 hc _)), rfl, rfl, rfl⟩
  · cases h
noncomputable def k39_tab (F : Nat) : Tab := [(102, (u025 F)), (85, (orEnt (k37_ent F) (k38_ent F)))]
theorem k39_tabok (F : Nat) : TabOK Tryz.prog (k39_tab F) := (u001 (u023 F) u027 (u001 (u154 (k37_meets F) (k38_meets F) rfl) k37_fok u015))
noncomputable def k39_LS0 (F : Nat) : LT := []
theorem k39_lsok0 (F : Nat) : u011 Tryz.prog (k39_LS0 F) (u000 Tryz.f85) := u005
theorem k39_run (F : Nat) (list0 : List Int) (rest1_0 : Int) (rest1_1 : Int) : runS tt (k39_tab F) (k39_LS0 F) [⟨6, 35, (.rl .i64 ([] : List (List Int)))⟩] [] Tryz.f85 (u000 Tryz.f85) 70 [.z0, (.ri .i64 list0), (.ri .i64 [rest1_0, rest1_1])] [] = k39_c _ list0 rest1_0 rest1_1 (fun r => some ⟨(.sl 0 0 (List.length r)), [(.vec 35 (.rl .i64 r))], []⟩) := by kernel_rfl
def k39_ent (F : Nat) : Ent := ⟨[true], .loud, fun args mem => match args, mem with
  | [.z0, (.ri .i64 list0), (.ri .i64 [rest1_0, rest1_1])], [] => some ((k39_p list0 rest1_0 rest1_1).isSome, ⟨(.sl 0 0 (List.length ((k39_p list0 rest1_0 rest1_1).getD default))), [(.vec 35 (.rl .i64 ((k39_p list0 rest1_0 rest1_1).getD default)))], []⟩)
  | _, _ => none⟩
theorem k39_fok : FunOK Tryz.prog 85 := funOK Tryz.func85 (by kernel_rfl) rfl
theorem k39_meets (F : Nat) : Meets Tryz.prog 85 (k39_ent F) := by
  refine u002 mixed ttok deep (k39_tabok F) Tryz.func85 (u009 rfl) (k39_lsok0 F) fun args mem hfit ret h => ?_
  clear hfit
  simp only [k39_ent] at h
  split at h
  · rename_i list0 rest1_0 rest1_1
    simp only [Option.some.injEq, Prod.mk.injEq] at h
    obtain ⟨hc, rfl⟩ := h
    exact ⟨[⟨6, 35, (.rl .i64 ([] : List (List Int)))⟩], [], 70, _, (k39_run F list0 rest1_0 rest1_1).trans ((k39_cp _ list0 rest1_0 rest1_1 _).trans (u014 hc _)), rfl, rfl, rfl⟩
  · cases h
noncomputable def k40_tab (F : Nat) : Tab := [(102, (u025 F)), (85, (k38_ent F))]
theorem k40_tabok (F : Nat) : TabOK Tryz.prog (k40_tab F) := (u001 (u023 F) u027 (u001 (k38_meets F) k38_fok u015))
noncomputable def k40_LS0 (F : Nat) : LT := []
theorem k40_lsok0 (F : Nat) : u011 Tryz.prog (k40_LS0 F) (u000 Tryz.f85) := u005
theorem k40_run (F : Nat) (list2 : List Int) (rest3_0 : Int) (rest3_1 : Int) (w6 : List (List Int)) : runS tt (k40_tab F) (k40_LS0 F) [] [0] Tryz.f85 (u000 Tryz.f85) 70 [(.sl 0 0 (List.length w6)), (.ri .i64 list2), (.ri .i64 [rest3_0, rest3_1])] [(.vec 35 (.rl .i64 w6))] = k40_c _ list2 rest3_0 rest3_1 w6 (fun r => some ⟨(.sl 0 0 (List.length r)), [(.vec 35 (.rl .i64 r))], [0]⟩) := by kernel_rfl
def k40_ent (F : Nat) : Ent := ⟨[true], .loud, fun args mem => match args, mem with
  | [(.sl 0 0 q_out1), (.ri .i64 list2), (.ri .i64 [rest3_0, rest3_1])], [(.vec 35 (.rl .i64 w6))] => some (((Nat.beq q_out1 (List.length w6)) && (k40_p list2 rest3_0 rest3_1 w6).isSome), ⟨(.sl 0 0 (List.length ((k40_p list2 rest3_0 rest3_1 w6).getD default))), [(.vec 35 (.rl .i64 ((k40_p list2 rest3_0 rest3_1 w6).getD default)))], [0]⟩)
  | _, _ => none⟩
theorem k40_fok : FunOK Tryz.prog 85 := funOK Tryz.func85 (by kernel_rfl) rfl
theorem k40_meets (F : Nat) : Meets Tryz.prog 85 (k40_ent F) := by
  refine u002 mixed ttok deep (k40_tabok F) Tryz.func85 (u009 rfl) (k40_lsok0 F) fun args mem hfit ret h => ?_
  clear hfit
  simp only [k40_ent] at h
  split at h
  · rename_i q_out1 list2 rest3_0 rest3_1 w6
    simp only [Option.some.injEq, Prod.mk.injEq] at h
    obtain ⟨hc, rfl⟩ := h
    have hg := (u013 hc).1
    replace hc := (u013 hc).2
    obtain rfl := u032 hg
    exact ⟨[], [0], 70, _, (k40_run F list2 rest3_0 rest3_1 w6).trans ((k40_cp _ list2 rest3_0 rest3_1 w6 _).trans (u014 hc _)), rfl, rfl, rfl⟩
  · cases h
noncomputable def k62_tab (F : Nat) : Tab := [(102, (u030 F)), (85, (orEnt (k39_ent F) (k40_ent F)))]
theorem k62_tabok (F : Nat) : TabOK Tryz.prog (k62_tab F) := (u001 (u038 F) u042 (u001 (u154 (k39_meets F) (k40_meets F) rfl) k39_fok u015))
noncomputable def k62_LS0 (F : Nat) : LT := []
theorem k62_lsok0 (F : Nat) : u011 Tryz.prog (k62_LS0 F) (u000 Tryz.f85) := u005
theorem k62_run (F : Nat) (rest0_0 : Int) (rest0_1 : Int) (rest0_2 : Int) : runS tt (k62_tab F) (k62_LS0 F) [] [] Tryz.f85 (u000 Tryz.f85) 70 [.z0, .z0, (.ri .i64 [rest0_0, rest0_1, rest0_2])] [] = k62_c _ rest0_0 rest0_1 rest0_2 (fun r => some ⟨(.sl 0 0 (List.length r)), [(.vec 35 (.rl .i64 r))], []⟩) := by kernel_rfl
def k62_ent (F : Nat) : Ent := ⟨[true], .loud, fun args mem => match args, mem with
  | [.z0, .z0, (.ri .i64 [rest0_0, rest0_1, rest0_2])], [] => some ((k62_p rest0_0 rest0_1 rest0_2).isSome, ⟨(.sl 0 0 (List.length ((k62_p rest0_0 rest0_1 rest0_2).getD default))), [(.vec 35 (.rl .i64 ((k62_p rest0_0 rest0_1 rest0_2).getD default)))], []⟩)
  | _, _ => none⟩
theorem k62_fok : FunOK Tryz.prog 85 := funOK Tryz.func85 (by kernel_rfl) rfl
theorem k62_meets (F : Nat) : Meets Tryz.prog 85 (k62_ent F) := by
  refine u002 mixed ttok deep (k62_tabok F) Tryz.func85 (u009 rfl) (k62_lsok0 F) fun args mem hfit ret h => ?_
  clear hfit
  simp only [k62_ent] at h
  split at h
  · rename_i rest0_0 rest0_1 rest0_2
    simp only [Option.some.injEq, Prod.mk.injEq] at h
    obtain ⟨hc, rfl⟩ := h
    exact ⟨[], [], 70, _, (k62_run F rest0_0 rest0_1 rest0_2).trans ((k62_cp _ rest0_0 rest0_1 rest0_2 _).trans (u014 hc _)), rfl, rfl, rfl⟩
  · cases h
noncomputable def k41_tab (F : Nat) : Tab := [(102, (u025 F)), (85, (orEnt (k39_ent F) (k40_ent F)))]
theorem k41_tabok (F : Nat) : TabOK Tryz.prog (k41_tab F) := (u001 (u023 F) u027 (u001 (u154 (k39_meets F) (k40_meets F) rfl) k39_fok u015))
noncomputable def k41_LS0 (F : Nat) : LT := []
theorem k41_lsok0 (F : Nat) : u011 Tryz.prog (k41_LS0 F) (u000 Tryz.f85) := u005
theorem k41_run (F : Nat) (list0 : List Int) (rest1_0 : Int) (rest1_1 : Int) (rest1_2 : Int) : runS tt (k41_tab F) (k41_LS0 F) [⟨6, 35, (.rl .i64 ([] : List (List Int)))⟩] [] Tryz.f85 (u000 Tryz.f85) 70 [.z0, (.ri .i64 list0), (.ri .i64 [rest1_0, rest1_1, rest1_2])] [] = k41_c _ list0 rest1_0 rest1_1 rest1_2 (fun r => some ⟨(.sl 0 0 (List.length r)), [(.vec 35 (.rl .i64 r))], []⟩) := by kernel_rfl
def k41_ent (F : Nat) : Ent := ⟨[true], .loud, fun args mem => match args, mem with
  | [.z0, (.ri .i64 list0), (.ri .i64 [rest1_0, rest1_1, rest1_2])], [] => some ((k41_p list0 rest1_0 rest1_1 rest1_2).isSome, ⟨(.sl 0 0 (List.length ((k41_p list0 rest1_0 rest1_1 rest1_2).getD default))), [(.vec 35 (.rl .i64 ((k41_p list0 rest1_0 rest1_1 rest1_2).getD default)))], []⟩)
  | _, _ => none⟩
theorem k41_fok : FunOK Tryz.prog 85 := funOK Tryz.func85 (by kernel_rfl) rfl
theorem k41_meets (F : Nat) : Meets Tryz.prog 85 (k41_ent F) := by
  refine u002 mixed ttok deep (k41_tabok F) Tryz.func85 (u009 rfl) (k41_lsok0 F) fun args mem hfit ret h => ?_
  clear hfit
  simp only [k41_ent] at h
  split at h
  · rename_i list0 rest1_0 rest1_1 rest1_2
    simp only [Option.some.injEq, Prod.mk.injEq] at h
    obtain ⟨hc, rfl⟩ := h
    exact ⟨[⟨6, 35, (.rl .i64 ([] : List (List Int)))⟩], [], 70, _, (k41_run F list0 rest1_0 rest1_1 rest1_2).trans ((k41_cp _ list0 rest1_0 rest1_1 rest1_2 _).trans (u014 hc _)), rfl, rfl, rfl⟩
  · cases h
noncomputable def k42_tab (F : Nat) : Tab := [(102, (u025 F)), (85, (k40_ent F))]
theorem k42_tabok (F : Nat) : TabOK Tryz.prog (k42_tab F) := (u001 (u023 F) u027 (u001 (k40_meets F) k40_fok u015))
noncomputable def k42_LS0 (F : Nat) : LT := []
theorem k42_lsok0 (F : Nat) : u011 Tryz.prog (k42_LS0 F) (u000 Tryz.f85) := u005
theorem k42_run (F : Nat) (list2 : List Int) (rest3_0 : Int) (rest3_1 : Int) (rest3_2 : Int) (w6 : List (List Int)) : runS tt (k42_tab F) (k42_LS0 F) [] [0] Tryz.f85 (u000 Tryz.f85) 70 [(.sl 0 0 (List.length w6)), (.ri .i64 list2), (.ri .i64 [rest3_0, rest3_1, rest3_2])] [(.vec 35 (.rl .i64 w6))] = k42_c _ list2 rest3_0 rest3_1 rest3_2 w6 (fun r => some ⟨(.sl 0 0 (List.length r)), [(.vec 35 (.rl .i64 r))], [0]⟩) := by kernel_rfl
def k42_ent (F : Nat) : Ent := ⟨[true], .loud, fun args mem => match args, mem with
  | [(.sl 0 0 q_out1), (.ri .i64 list2), (.ri .i64 [rest3_0, rest3_1, rest3_2])], [(.vec 35 (.rl .i64 w6))] => some (((Nat.beq q_out1 (List.length w6)) && (k42_p list2 rest3_0 rest3_1 rest3_2 w6).isSome), ⟨(.sl 0 0 (List.length ((k42_p list2 rest3_0 rest3_1 rest3_2 w6).getD default))), [(.vec 35 (.rl .i64 ((k42_p list2 rest3_0 rest3_1 rest3_2 w6).getD default)))], [0]⟩)
  | _, _ => none⟩
theorem k42_fok : FunOK Tryz.prog 85 := funOK Tryz.func85 (by kernel_rfl) rfl
theorem k42_meets (F : Nat) : Meets Tryz.prog 85 (k42_ent F) := by
  refine u002 mixed ttok deep (k42_tabok F) Tryz.func85 (u009 rfl) (k42_lsok0 F) fun args mem hfit ret h => ?_
  clear hfit
  simp only [k42_ent] at h
  split at h
  · rename_i q_out1 list2 rest3_0 rest3_1 rest3_2 w6
    simp only [Option.some.injEq, Prod.mk.injEq] at h
    obtain ⟨hc, rfl⟩ := h
    have hg := (u013 hc).1
    replace hc := (u013 hc).2
    obtain rfl := u032 hg
    exact ⟨[], [0], 70, _, (k42_run F list2 rest3_0 rest3_1 rest3_2 w6).trans ((k42_cp _ list2 rest3_0 rest3_1 rest3_2 w6 _).trans (u014 hc _)), rfl, rfl, rfl⟩
  · cases h
noncomputable def k63_tab (F : Nat) : Tab := [(102, (u030 F)), (85, (orEnt (k41_ent F) (k42_ent F)))]
theorem k63_tabok (F : Nat) : TabOK Tryz.prog (k63_tab F) := (u001 (u038 F) u042 (u001 (u154 (k41_meets F) (k42_meets F) rfl) k41_fok u015))
noncomputable def k63_LS0 (F : Nat) : LT := []
theorem k63_lsok0 (F : Nat) : u011 Tryz.prog (k63_LS0 F) (u000 Tryz.f85) := u005
theorem k63_run (F : Nat) (rest0_0 : Int) (rest0_1 : Int) (rest0_2 : Int) (rest0_3 : Int) : runS tt (k63_tab F) (k63_LS0 F) [] [] Tryz.f85 (u000 Tryz.f85) 70 [.z0, .z0, (.ri .i64 [rest0_0, rest0_1, rest0_2, rest0_3])] [] = k63_c _ rest0_0 rest0_1 rest0_2 rest0_3 (fun r => some ⟨(.sl 0 0 (List.length r)), [(.vec 35 (.rl .i64 r))], []⟩) := by kernel_rfl
def k63_ent (F : Nat) : Ent := ⟨[true], .loud, fun args mem => match args, mem with
  | [.z0, .z0, (.ri .i64 [rest0_0, rest0_1, rest0_2, rest0_3])], [] => some ((k63_p rest0_0 rest0_1 rest0_2 rest0_3).isSome, ⟨(.sl 0 0 (List.length ((k63_p rest0_0 rest0_1 rest0_2 rest0_3).getD default))), [(.vec 35 (.rl .i64 ((k63_p rest0_0 rest0_1 rest0_2 rest0_3).getD default)))], []⟩)
  | _, _ => none⟩
theorem k63_fok : FunOK Tryz.prog 85 := funOK Tryz.func85 (by kernel_rfl) rfl
theorem k63_meets (F : Nat) : Meets Tryz.prog 85 (k63_ent F) := by
  refine u002 mixed ttok deep (k63_tabok F) Tryz.func85 (u009 rfl) (k63_lsok0 F) fun args mem hfit ret h => ?_
  clear hfit
  simp only [k63_ent] at h
  split at h
  · rename_i rest0_0 rest0_1 rest0_2 rest0_3
    simp only [Option.some.injEq, Prod.mk.injEq] at h
    obtain ⟨hc, rfl⟩ := h
    exact ⟨[], [], 70, _, (k63_run F rest0_0 rest0_1 rest0_2 rest0_3).trans ((k63_cp _ rest0_0 rest0_1 rest0_2 rest0_3 _).trans (u014 hc _)), rfl, rfl, rfl⟩
  · cases h
def k118_ent (F : Nat) : Ent := ⟨[true], .loud, fun args mem => match args, mem with
  | [.z0, .z0, (.ri .i64 vg)], [] => some ((k118_p vg).isSome, ⟨(.sl 0 0 (List.length ((k118_p vg).getD default))), [(.vec 35 (.rl .i64 ((k118_p vg).getD default)))], []⟩)
  | _, _ => none⟩
theorem k118_fok : FunOK Tryz.prog 85 := funOK Tryz.func85 (by kernel_rfl) rfl
theorem k118_meets (F : Nat) : Meets Tryz.prog 85 (k118_ent F) := by
  intro fr w ρ mem args reals hw ha ret hg
  simp only [k118_ent] at hg
  split at hg
  · rename_i vg
    simp only [Option.some.injEq, Prod.mk.injEq] at hg
    obtain ⟨hc, rfl⟩ := hg
    by_cases hn0 : Nat.beq (List.length vg) 0 = true
    · obtain rfl := list0 (u032 hn0)
      have e : k118_p [] = some [([] : List Int)] := by kernel_rfl
      have hg' : (k59_ent F).g [.z0, .z0, (.ri .i64 ([] : List Int))] [] = some (true, ⟨(.sl 0 0 1), [(.vec 35 (.rl .i64 [([] : List Int)]))], []⟩) := by kernel_rfl
      have h9 := k59_meets F fr w ρ _ _ reals hw ha _ hg'
      simp only [e, cond_true, Option.getD_some]
      exact h9
    · replace hn0 : Nat.beq (List.length vg) 0 = false := by simpa only [Bool.not_eq_true] using hn0
      by_cases hn1 : Nat.beq (List.length vg) 1 = true
      · obtain ⟨y0, rfl⟩ := list1 (u032 hn1)
        have e : k118_p [y0] = (bif (Option.isSome (k60_p y0)) then some (Option.getD (k60_p y0) default) else none) := by kernel_rfl
        have hg' : (k60_ent F).g [.z0, .z0, (.ri .i64 [y0])] [] = some ((Option.isSome (k60_p y0)), ⟨(.sl 0 0 (List.length (Option.getD (k60_p y0) default))), [(.vec 35 (.rl .i64 (Option.getD (k60_p y0) default)))], []⟩) := by kernel_rfl
        rw [e] at hc
        have hC := u147 hc
        rw [hC] at hg'
        have h9 := k60_meets F fr w ρ _ _ reals hw ha _ hg'
        simp only [e, hC, cond_true, Option.getD_some]
        exact h9
      · replace hn1 : Nat.beq (List.length vg) 1 = false := by simpa only [Bool.not_eq_true] using hn1
        by_cases hn2 : Nat.beq (List.length vg) 2 = true
        · obtain ⟨y0, y1, rfl⟩ := list2 (u032 hn2)
          have e : k118_p [y0, y1] = (bif (Option.isSome (k61_p y0 y1)) then some (Option.getD (k61_p y0 y1) default) else none) := by kernel_rfl
          have hg' : (k61_ent F).g [.z0, .z0, (.ri .i64 [y0, y1])] [] = some ((Option.isSome (k61_p y0 y1)), ⟨(.sl 0 0 (List.length (Option.getD (k61_p y0 y1) default))), [(.vec 35 (.rl .i64 (Option.getD (k61_p y0 y1) default)))], []⟩) := by kernel_rfl
          rw [e] at hc
          have hC := u147 hc
          rw [hC] at hg'
          have h9 := k61_meets F fr w ρ _ _ reals hw ha _ hg'
          simp only [e, hC, cond_true, Option.getD_some]
          exact h9
        · replace hn2 : Nat.beq (List.length vg) 2 = false := by simpa only [Bool.not_eq_true] using hn2
          by_cases hn3 : Nat.beq (List.length vg) 3 = true
          · obtain ⟨y0, y1, y2, rfl⟩ := list3 (u032 hn3)
            have e : k118_p [y0, y1, y2] = (bif (Option.isSome (k62_p y0 y1 y2)) then some (Option.getD (k62_p y0 y1 y2) default) else none) := by kernel_rfl
            have hg' : (k62_ent F).g [.z0, .z0, (.ri .i64 [y0, y1, y2])] [] = some ((Option.isSome (k62_p y0 y1 y2)), ⟨(.sl 0 0 (List.length (Option.getD (k62_p y0 y1 y2) default))), [(.vec 35 (.rl .i64 (Option.getD (k62_p y0 y1 y2) default)))], []⟩) := by kernel_rfl
            rw [e] at hc
            have hC := u147 hc
            rw [hC] at hg'
            have h9 := k62_meets F fr w ρ _ _ reals hw ha _ hg'
            simp only [e, hC, cond_true, Option.getD_some]
            exact h9
          · replace hn3 : Nat.beq (List.length vg) 3 = false := by simpa only [Bool.not_eq_true] using hn3
            by_cases hn4 : Nat.beq (List.length vg) 4 = true
            · obtain ⟨y0, y1, y2, y3, rfl⟩ := list4 (u032 hn4)
              have e : k118_p [y0, y1, y2, y3] = (bif (Option.isSome (k63_p y0 y1 y2 y3)) then some (Option.getD (k63_p y0 y1 y2 y3) default) else none) := by kernel_rfl
              have hg' : (k63_ent F).g [.z0, .z0, (.ri .i64 [y0, y1, y2, y3])] [] = some ((Option.isSome (k63_p y0 y1 y2 y3)), ⟨(.sl 0 0 (List.length (Option.getD (k63_p y0 y1 y2 y3) default))), [(.vec 35 (.rl .i64 (Option.getD (k63_p y0 y1 y2 y3) default)))], []⟩) := by kernel_rfl
              rw [e] at hc
              have hC := u147 hc
              rw [hC] at hg'
              have h9 := k63_meets F fr w ρ _ _ reals hw ha _ hg'
              simp only [e, hC, cond_true, Option.getD_some]
              exact h9
            · replace hn4 : Nat.beq (List.length vg) 4 = false := by simpa only [Bool.not_eq_true] using hn4
              exfalso
              have e : k118_p vg = none := by simp only [k118_p, k118_c, hn0, hn1, hn2, hn3, hn4, cond_false]
              rw [e] at hc
              cases hc
  · cases hg
noncomputable def k121_tab (F : Nat) : Tab := []
theorem k121_tabok (F : Nat) : TabOK Tryz.prog (k121_tab F) := u015
noncomputable def k121_LS0 (F : Nat) : LT := []
theorem k121_lsok0 (F : Nat) : u011 Tryz.prog (k121_LS0 F) (u000 Tryz.f97) := u005
theorem k121_run (F : Nat) (t0 : Int) : runS tt (k121_tab F) (k121_LS0 F) [] [] Tryz.f97 (u000 Tryz.f97) 70 [(.int .i64 t0)] [] = k121_c _ t0 (fun r => some ⟨(.int .i64 r), [], []⟩) := by kernel_rfl
def k121_ent (F : Nat) : Ent := ⟨[], .quiet, fun args mem => match args, mem with
  | [(.int .i64 t0)], [] => some ((k121_p t0).isSome, ⟨(.int .i64 ((k121_p t0).getD default)), [], []⟩)
  | _, _ => none⟩
theorem k121_fok : FunOK Tryz.prog 97 := funOK Tryz.func97 (by kernel_rfl) rfl
theorem k121_meets (F : Nat) : Meets Tryz.prog 97 (k121_ent F) := by
  refine u002 mixed ttok deep (k121_tabok F) Tryz.func97 (u009 rfl) (k121_lsok0 F) fun args mem hfit ret h => ?_
  clear hfit
  simp only [k121_ent] at h
  split at h
  · rename_i t0
    simp only [Option.some.injEq, Prod.mk.injEq] at h
    obtain ⟨hc, rfl⟩ := h
    exact ⟨[], [], 70, _, (k121_run F t0).trans ((k121_cp _ t0 _).trans (u014 hc _)), rfl, rfl, rfl⟩
  · cases h
noncomputable def k83_tab (F : Nat) : Tab := [(86, (k120_ent F)), (97, (k121_ent F))]
theorem k83_tabok (F : Nat) : TabOK Tryz.prog (k83_tab F) := (u001 (k120_meets F) k120_fok (u001 (k121_meets F) k121_fok u015))
noncomputable def k83_LS0 (F : Nat) : LT := []
theorem k83_lsok0 (F : Nat) : u011 Tryz.prog (k83_LS0 F) (u000 Tryz.f78) := u005
theorem k83_keys : u059 (u000 Tryz.f78) = true := by kernel_rfl
def k83_st3 (wp : Nat) (vp : Int) (yq : List Int) (jk : Int) (vh : Int) (wv : Int) (vv : List Int) (gj : List Bool) : St := ⟨u018 63 0 [2, 4, 5, 6, 7, 8, 14, 15, 16] [(.ptr 0 0 0 4), (.ptr 1 0 0 4), (.ptr 2 0 0 4), (.ptr 3 0 0 4), (.int .i64 jk), (.int .i64 vh), (.sl 4 0 wp), (.int .i64 vp), (.int .i64 wv)], [(.var 4 (.ri .i64 [(0 : Int), (0 : Int), (0 : Int), (0 : Int)])), (.var 4 (.rb [false, false, false, false])), (.var 4 (.ri .i64 vv)), (.var 4 (.rb gj)), (.vec 3 (.ri .i64 yq))], 0, []⟩
def k83_o3 (wp : Nat) (vp : Int) (yq : List Int) (x : Int × List Int × List Bool) : GT := (.out (.exit 0 ⟨u018 63 0 [2, 4, 5, 6, 7] [(.ptr 0 0 0 4), (.ptr 1 0 0 4), (.ptr 2 0 0 4), (.ptr 3 0 0 4), (.int .i64 x.1)], [(.var 4 (.ri .i64 [(0 : Int), (0 : Int), (0 : Int), (0 : Int)])), (.var 4 (.rb [false, false, false, false])), (.var 4 (.ri .i64 x.2.1)), (.var 4 (.rb x.2.2))], 0, []⟩))
def k83_ls3 (F : Nat) : LoopS := ⟨63, [2, 4, 5, 6, 7, 8, 14, 15, 16], [], [2, 4, 5, 6, 7], [], [2, 3, 4], [], [], fun vals mem np killed => match vals, mem, np, killed with
  | [(.ptr 0 0 0 4), (.ptr 1 0 0 4), (.ptr 2 0 0 4), (.ptr 3 0 0 4), (.int .i64 jk), (.int .i64 vh), (.sl 4 0 wp), (.int .i64 vp), (.int .i64 wv)], [(.var 4 (.ri .i64 q_t218)), (.var 4 (.rb q_t419)), (.var 4 (.ri .i64 vv)), (.var 4 (.rb gj)), (.vec 3 (.ri .i64 yq))], 0, [] => .br ((q_t218 == ([(0 : Int), (0 : Int), (0 : Int), (0 : Int)] : List Int)) && ((q_t419 == ([false, false, false, false] : List Bool)) && (k83_l3 F wp vp yq jk vh wv vv gj).isSome)) (k83_o3 wp vp yq ((k83_l3 F wp vp yq jk vh wv vv gj).getD default)) .fail
  | _, _, _, _ => .fail⟩
theorem k83_step3 (F : Nat) (wp : Nat) (vp : Int) (yq : List Int) (jk : Int) (vh : Int) (wv : Int) (vv : List Int) (gj : List Bool) {R : Type} (k : Out → Option R) : stepS tt (k83_tab F) (k83_LS0 F) 70 (k83_ls3 F) (u010 3 (u000 Tryz.f78)) (k83_st3 wp vp yq jk vh wv vv gj) k = k83_s3 F wp vp yq R (jk, vh, wv, vv, gj) (fun s => k (.norm (k83_st3 wp vp yq s.1 s.2.1 s.2.2.1 s.2.2.2.1 s.2.2.2.2))) (fun x => (k83_o3 wp vp yq x).run k) := by kernel_rfl
theorem k83_iter3 (F : Nat) (wp : Nat) (vp : Int) (yq : List Int) {R : Type} (k : Out → Option R) : ∀ (n : Nat) (jk : Int) (vh : Int) (wv : Int) (vv : List Int) (gj : List Bool), iterS tt (k83_tab F) (k83_LS0 F) 70 (k83_ls3 F) (u010 3 (u000 Tryz.f78)) n (k83_st3 wp vp yq jk vh wv vv gj) k = loopC (k83_s3 F wp vp yq) n (jk, vh, wv, vv, gj) (fun x => (k83_o3 wp vp yq x).run k)
  | 0, jk, vh, wv, vv, gj => rfl
  | n + 1, jk, vh, wv, vv, gj => (u017 tt (k83_tab F) (k83_LS0 F) 70 (k83_ls3 F) (u010 3 (u000 Tryz.f78)) n (k83_st3 wp vp yq jk vh wv vv gj) k).trans ((k83_step3 F wp vp yq jk vh wv vv gj (nextK (iterS tt (k83_tab F) (k83_LS0 F) 70 (k83_ls3 F) (u010 3 (u000 Tryz.f78)) n) k)).trans (congrArg (fun kn => k83_s3 F wp vp yq R (jk, vh, wv, vv, gj) kn _) (funext (fun ⟨jk, vh, wv, vv, gj⟩ => k83_iter3 F wp vp yq k n jk vh wv vv gj))))
theorem k83_lok3 (F : Nat) : u041 Tryz.prog (u010 3 (u000 Tryz.f78)) (k83_ls3 F) := by
  refine u019 mixed ttok deep (k83_tabok F) (u016 (k83_lsok0 F) 3) (fuel := 70) fun R vals mem np killed k x h => ?_
  simp only [k83_ls3] at h
  split at h
  · rename_i jk vh wp vp wv q_t218 q_t419 vv gj yq
    simp only [GT.run] at h
    have hc := (u007 h).1
    replace h := (u007 h).2
    have hg := (u013 hc).1
    replace hc := (u013 hc).2
    obtain rfl := u208 hg
    have hg := (u013 hc).1
    replace hc := (u013 hc).2
    obtain rfl := beq_lb hg
    refine ⟨F, (k83_iter3 F wp vp yq k F jk vh wv vv gj).trans ((u020 (k83_s3_nat F wp vp yq) hc _).trans h)⟩
  · simp only [GT.run] at h
    cases h
noncomputable def k83_LS1 (F : Nat) : LT := (3, k83_ls3 F) :: k83_LS0 F
theorem k83_lsok1 (F : Nat) : u011 Tryz.prog (k83_LS1 F) (u000 Tryz.f78) := u012 k83_keys (k83_lok3 F) (k83_lsok0 F)
theorem k83_run (F : Nat) (w4 : List Int) : runS tt (k83_tab F) (k83_LS1 F) [] [] Tryz.f78 (u000 Tryz.f78) 70 [(.ints 4 w4)] [] = k83_c _ F w4 (fun r => some ⟨(.tup [(.ints 4 r.1), (.int .i64 r.2.1), (.bools 4 r.2.2)]), [], []⟩) := by kernel_rfl
def k83_ent (F : Nat) : Ent := ⟨[], .quiet, fun args mem => match args, mem with
  | [(.ints 4 w4)], [] => some ((k83_p F w4).isSome, ⟨(.tup [(.ints 4 ((k83_p F w4).getD default).1), (.int .i64 ((k83_p F w4).getD default).2.1), (.bools 4 ((k83_p F w4).getD default).2.2)]), [], []⟩)
  | _, _ => none⟩
theorem k83_fok : FunOK Tryz.prog 78 := funOK Tryz.func78 (by kernel_rfl) rfl
theorem k83_meets (F : Nat) : Meets Tryz.prog 78 (k83_ent F) := by
  refine u002 mixed ttok deep (k83_tabok F) Tryz.func78 (u009 rfl) (k83_lsok1 F) fun args mem hfit ret h => ?_
  clear hfit
  simp only [k83_ent] at h
  split at h
  · rename_i w4
    simp only [Option.some.injEq, Prod.mk.injEq] at h
    obtain ⟨hc, rfl⟩ := h
    exact ⟨[], [], 70, _, (k83_run F w4).trans ((k83_cp _ F w4 _).trans (u014 hc _)), rfl, rfl, rfl⟩
  · cases h
noncomputable def k75_tab (F : Nat) : Tab := []
theorem k75_tabok (F : Nat) : TabOK Tryz.prog (k75_tab F) := u015
noncomputable def k75_LS0 (F : Nat) : LT := []
theorem k75_lsok0 (F : Nat) : u011 Tryz.prog (k75_LS0 F) (u000 Tryz.f120) := u005
theorem k75_run (F : Nat) (x0 : Int) : runS tt (k75_tab F) (k75_LS0 F) [] [] Tryz.f120 (u000 Tryz.f120) 70 [(.int .i64 x0)] [] = k75_c _ x0 (fun r => some ⟨(.bool r), [], []⟩) := by kernel_rfl
def k75_ent (F : Nat) : Ent := ⟨[], .quiet, fun args mem => match args, mem with
  | [(.int .i64 x0)], [] => some (true, ⟨(.bool (k75_v x0)), [], []⟩)
  | _, _ => none⟩
theorem k75_fok : FunOK Tryz.prog 120 := funOK Tryz.func120 (by kernel_rfl) rfl
theorem k75_meets (F : Nat) : Meets Tryz.prog 120 (k75_ent F) := by
  refine u002 mixed ttok deep (k75_tabok F) Tryz.func120 (u009 rfl) (k75_lsok0 F) fun args mem hfit ret h => ?_
  clear hfit
  simp only [k75_ent] at h
  split at h
  · rename_i x0
    simp only [Option.some.injEq, Prod.mk.injEq] at h
    obtain ⟨hc, rfl⟩ := h
    exact ⟨[], [], 70, _, (k75_run F x0).trans (k75_cv _ x0 _), rfl, rfl, rfl⟩
  · cases h
noncomputable def k54_tab (F : Nat) : Tab := [(120, (k75_ent F))]
theorem k54_tabok (F : Nat) : TabOK Tryz.prog (k54_tab F) := (u001 (k75_meets F) k75_fok u015)
noncomputable def k54_LS0 (F : Nat) : LT := []
theorem k54_lsok0 (F : Nat) : u011 Tryz.prog (k54_LS0 F) (u000 Tryz.f98) := u005
theorem k54_run (F : Nat) (x0 : Int) (y1 : Int) : runS tt (k54_tab F) (k54_LS0 F) [] [] Tryz.f98 (u000 Tryz.f98) 70 [(.int .i64 x0), (.int .i64 y1)] [] = k54_c _ x0 y1 (fun r => some ⟨(.int .i64 r), [], []⟩) := by kernel_rfl
def k54_ent (F : Nat) : Ent := ⟨[], .quiet, fun args mem => match args, mem with
  | [(.int .i64 x0), (.int .i64 y1)], [] => some (true, ⟨(.int .i64 (k54_v x0 y1)), [], []⟩)
  | _, _ => none⟩
theorem k54_fok : FunOK Tryz.prog 98 := funOK Tryz.func98 (by kernel_rfl) rfl
theorem k54_meets (F : Nat) : Meets Tryz.prog 98 (k54_ent F) := by
  refine u002 mixed ttok deep (k54_tabok F) Tryz.func98 (u009 rfl) (k54_lsok0 F) fun args mem hfit ret h => ?_
  clear hfit
  simp only [k54_ent] at h
  split at h
  · rename_i x0 y1
    simp only [Option.some.injEq, Prod.mk.injEq] at h
    obtain ⟨hc, rfl⟩ := h
    exact ⟨[], [], 70, _, (k54_run F x0 y1).trans (k54_cv _ x0 y1 _), rfl, rfl, rfl⟩
  · cases h
end Go.Proofs.YtabfliifleonaakGreat
