/-
Pure functions and what the code of them does, by program; without conditions.
-/
import Derived.Test.YtabfliifleonaakGreatQkP6
import Derived.Test.YtabfliifleonaakGreatQkS5
namespace Go.Proofs.YtabfliifleonaakGreat
open Go Go.Lv Go.Lv.P Go.Proofs
set_option linter.unusedVariables false
set_option linter.unusedSimpArgs false
set_option maxRecDepth 100000
noncomputable def k92_tab (F : Nat) : Tab := []
theorem k92_tabok (F : Nat) : TabOK Tryz.prog (k92_tab F) := u015
noncomputable def k92_LS0 (F : Nat) : LT := []
theorem k92_lsok0 (F : Nat) : u011 Tryz.prog (k92_LS0 F) (u000 Tryz.f70) := u005
theorem k92_keys : u059 (u000 Tryz.f70) = true := by kernel_rfl
def k92_st5 (r6 : Int) (a8 : List Int) (b9 : List Int) (c7 : Int) : St := ⟨u018 41 0 [2, 3, 5, 6] [(.ptr 0 0 0 16), (.ptr 1 0 0 16), (.int .i64 r6), (.int .i64 c7)], [(.var 16 (.ri .i64 a8)), (.var 16 (.ri .i64 b9))], 0, []⟩
def k92_o5 (r6 : Int) (a8 : List Int) (b9 : List Int) (x : Bool × Bool) : GT := (.br x.1 (.out (.ret ⟨u018 41 0 [4] [(.bool x.2)], [], 0, []⟩)) (.out (.exit 2 ⟨u018 41 0 [2, 3, 5] [(.ptr 0 0 0 16), (.ptr 1 0 0 16), (.int .i64 r6)], [(.var 16 (.ri .i64 a8)), (.var 16 (.ri .i64 b9))], 0, []⟩)))
def k92_ls5 (F : Nat) : LoopS := ⟨41, [2, 3, 5, 6], [], [2, 3, 5], [], [4], [], [], fun vals mem np killed => match vals, mem, np, killed with
  | [(.ptr 0 0 0 16), (.ptr 1 0 0 16), (.int .i64 r6), (.int .i64 c7)], [(.var 16 (.ri .i64 a8)), (.var 16 (.ri .i64 b9))], 0, [] => .br (k92_l5 F r6 a8 b9 c7).isSome (k92_o5 r6 a8 b9 ((k92_l5 F r6 a8 b9 c7).getD default)) .fail
  | _, _, _, _ => .fail⟩
theorem k92_step5 (F : Nat) (r6 : Int) (a8 : List Int) (b9 : List Int) (c7 : Int) {R : Type} (k : Out → Option R) : stepS tt (k92_tab F) (k92_LS0 F) 70 (k92_ls5 F) (u010 5 (u000 Tryz.f70)) (k92_st5 r6 a8 b9 c7) k = k92_s5 F r6 a8 b9 R c7 (fun s => k (.norm (k92_st5 r6 a8 b9 s))) (fun x => (k92_o5 r6 a8 b9 x).run k) := by kernel_rfl
theorem k92_iter5 (F : Nat) (r6 : Int) (a8 : List Int) (b9 : List Int) {R : Type} (k : Out → Option R) : ∀ (n : Nat) (c7 : Int), iterS tt (k92_tab F) (k92_LS0 F) 70 (k92_ls5 F) (u010 5 (u000 Tryz.f70)) n (k92_st5 r6 a8 b9 c7) k = loopC (k92_s5 F r6 a8 b9) n c7 (fun x => (k92_o5 r6 a8 b9 x).run k)
  | 0, c7 => rfl
  | n + 1, c7 => (u017 tt (k92_tab F) (k92_LS0 F) 70 (k92_ls5 F) (u010 5 (u000 Tryz.f70)) n (k92_st5 r6 a8 b9 c7) k).trans ((k92_step5 F r6 a8 b9 c7 (nextK (iterS tt (k92_tab F) (k92_LS0 F) 70 (k92_ls5 F) (u010 5 (u000 Tryz.f70)) n) k)).trans (congrArg (fun kn => k92_s5 F r6 a8 b9 R c7 kn _) (funext (fun c7 => k92_iter5 F r6 a8 b9 k n c7))))
theorem k92_lok5 (F : Nat) : u041 Tryz.prog (u010 5 (u000 Tryz.f70)) (k92_ls5 F) := by
  refine u019 mixed ttok deep (k92_tabok F) (u016 (k92_lsok0 F) 5) (fuel := 70) fun R vals mem np killed k x h => ?_
  simp only [k92_ls5] at h
  split at h
  · rename_i r6 c7 a8 b9
    simp only [GT.run] at h
    have hc := (u007 h).1
    replace h := (u007 h).2
    refine ⟨F, (k92_iter5 F r6 a8 b9 k F c7).trans ((u020 (k92_s5_nat F r6 a8 b9) hc _).trans h)⟩
  · simp only [GT.run] at h
    cases h
noncomputable def k92_LS1 (F : Nat) : LT := (5, k92_ls5 F) :: k92_LS0 F
theorem k92_lsok1 (F : Nat) : u011 Tryz.prog (k92_LS1 F) (u000 Tryz.f70) := u012 k92_keys (k92_lok5 F) (k92_lsok0 F)
def k92_st2 (a7 : List Int) (b8 : List Int) (r6 : Int) : St := ⟨u018 41 0 [2, 3, 5] [(.ptr 0 0 0 16), (.ptr 1 0 0 16), (.int .i64 r6)], [(.var 16 (.ri .i64 a7)), (.var 16 (.ri .i64 b8))], 0, []⟩
def k92_o2 (a7 : List Int) (b8 : List Int) (x : Bool × Bool) : GT := (.br x.1 (.out (.ret ⟨u018 41 0 [4] [(.bool x.2)], [], 0, []⟩)) (.out (.exit 0 ⟨u018 41 0 [] [], [], 0, []⟩)))
def k92_ls2 (F : Nat) : LoopS := ⟨41, [2, 3, 5], [], [], [], [4], [], [], fun vals mem np killed => match vals, mem, np, killed with
  | [(.ptr 0 0 0 16), (.ptr 1 0 0 16), (.int .i64 r6)], [(.var 16 (.ri .i64 a7)), (.var 16 (.ri .i64 b8))], 0, [] => .br (k92_l2 F a7 b8 r6).isSome (k92_o2 a7 b8 ((k92_l2 F a7 b8 r6).getD default)) .fail
  | _, _, _, _ => .fail⟩
theorem k92_step2 (F : Nat) (a7 : List Int) (b8 : List Int) (r6 : Int) {R : Type} (k : Out → Option R) : stepS tt (k92_tab F) (k92_LS1 F) 70 (k92_ls2 F) (u010 2 (u000 Tryz.f70)) (k92_st2 a7 b8 r6) k = k92_s2 F a7 b8 R r6 (fun s => k (.norm (k92_st2 a7 b8 s))) (fun x => (k92_o2 a7 b8 x).run k) := by kernel_rfl
theorem k92_iter2 (F : Nat) (a7 : List Int) (b8 : List Int) {R : Type} (k : Out → Option R) : ∀ (n : Nat) (r6 : Int), iterS tt (k92_tab F) (k92_LS1 F) 70 (k92_ls2 F) (u010 2 (u000 Tryz.f70)) n (k92_st2 a7 b8 r6) k = loopC (k92_s2 F a7 b8) n r6 (fun x => (k92_o2 a7 b8 x).run k)
  | 0, r6 => rfl
  | n + 1, r6 => (u017 tt (k92_tab F) (k92_LS1 F) 70 (k92_ls2 F) (u010 2 (u000 Tryz.f70)) n (k92_st2 a7 b8 r6) k).trans ((k92_step2 F a7 b8 r6 (nextK (iterS tt (k92_tab F) (k92_LS1 F) 70 (k92_ls2 F) (u010 2 (u000 Tryz.f70)) n) k)).trans (congrArg (fun kn => k92_s2 F a7 b8 R r6 kn _) (funext (fun r6 => k92_iter2 F a7 b8 k n r6))))
theorem k92_lok2 (F : Nat) : u041 Tryz.prog (u010 2 (u000 Tryz.f70)) (k92_ls2 F) := by
  refine u019 mixed ttok deep (k92_tabok F) (u016 (k92_lsok1 F) 2) (fuel := 70) fun R vals mem np killed k x h => ?_
  simp only [k92_ls2] at h
  split at h
  · rename_i r6 a7 b8
    simp only [GT.run] at h
    have hc := (u007 h).1
    replace h := (u007 h).2
    refine ⟨F, (k92_iter2 F a7 b8 k F r6).trans ((u020 (k92_s2_nat F a7 b8) hc _).trans h)⟩
  · simp only [GT.run] at h
    cases h
noncomputable def k92_LS2 (F : Nat) : LT := (2, k92_ls2 F) :: k92_LS1 F
theorem k92_lsok2 (F : Nat) : u011 Tryz.prog (k92_LS2 F) (u000 Tryz.f70) := u012 k92_keys (k92_lok2 F) (k92_lsok1 F)
theorem k92_run (F : Nat) (a0 : List Int) (b1 : List Int) : runS tt (k92_tab F) (k92_LS2 F) [] [] Tryz.f70 (u000 Tryz.f70) 70 [(.ints 16 a0), (.ints 16 b1)] [] = k92_c _ F a0 b1 (fun r => some ⟨(.bool r), [], []⟩) := by kernel_rfl
def k92_ent (F : Nat) : Ent := ⟨[], .quiet, fun args mem => match args, mem with
  | [(.ints 16 a0), (.ints 16 b1)], [] => some ((k92_p F a0 b1).isSome, ⟨(.bool ((k92_p F a0 b1).getD default)), [], []⟩)
  | _, _ => none⟩
theorem k92_fok : FunOK Tryz.prog 70 := funOK Tryz.func70 (by kernel_rfl) rfl
theorem k92_meets (F : Nat) : Meets Tryz.prog 70 (k92_ent F) := by
  refine u002 mixed ttok deep (k92_tabok F) Tryz.func70 (u009 rfl) (k92_lsok2 F) fun args mem hfit ret h => ?_
  clear hfit
  simp only [k92_ent] at h
  split at h
  · rename_i a0 b1
    simp only [Option.some.injEq, Prod.mk.injEq] at h
    obtain ⟨hc, rfl⟩ := h
    exact ⟨[], [], 70, _, (k92_run F a0 b1).trans ((k92_cp _ F a0 b1 _).trans (u014 hc _)), rfl, rfl, rfl⟩
  · cases h
noncomputable def k95_tab (F : Nat) : Tab := [(70, (k92_ent F))]
theorem k95_tabok (F : Nat) : TabOK Tryz.prog (k95_tab F) := (u001 (k92_meets F) k92_fok u015)
noncomputable def k95_LS0 (F : Nat) : LT := []
theorem k95_lsok0 (F : Nat) : u011 Tryz.prog (k95_LS0 F) (u000 Tryz.f40) := u005
theorem k95_keys : u059 (u000 Tryz.f40) = true := by kernel_rfl
def k95_st7 (list0 : List (List Int)) (i6 : Int) (yv : List Int) (ja : List (List Int)) (n7 : Int) : St := ⟨u018 55 0 [0, 3, 5, 6, 7] [(.rr 16 list0), (.ptr 0 0 0 16), (.sl 1 0 (List.length ja)), (.int .i64 i6), (.int .i64 n7)], [(.var 16 (.ri .i64 yv)), (.vec 27 (.rr 16 ja))], 0, []⟩
def k95_o7 (list0 : List (List Int)) (i6 : Int) (yv : List Int) (ja : List (List Int)) (x : Int) : GT := (.out (.exit 2 ⟨u018 55 0 [0, 3, 5, 6, 7] [(.rr 16 list0), (.ptr 0 0 0 16), (.sl 1 0 (List.length ja)), (.int .i64 i6), (.int .i64 x)], [(.var 16 (.ri .i64 yv)), (.vec 27 (.rr 16 ja))], 0, []⟩))
def k95_ls7 (F : Nat) : LoopS := ⟨55, [0, 3, 5, 6, 7], [], [0, 3, 5, 6, 7], [], [4], [], [], fun vals mem np killed => match vals, mem, np, killed with
  | [(.rr 16 list0), (.ptr 0 0 0 16), (.sl 1 0 q_out5), (.int .i64 i6), (.int .i64 n7)], [(.var 16 (.ri .i64 yv)), (.vec 27 (.rr 16 ja))], 0, [] => .br ((Nat.beq q_out5 (List.length ja)) && (k95_l7 F list0 i6 yv ja n7).isSome) (k95_o7 list0 i6 yv ja ((k95_l7 F list0 i6 yv ja n7).getD default)) .fail
  | _, _, _, _ => .fail⟩
theorem k95_step7 (F : Nat) (list0 : List (List Int)) (i6 : Int) (yv : List Int) (ja : List (List Int)) (n7 : Int) {R : Type} (k : Out → Option R) : stepS tt (k95_tab F) (k95_LS0 F) 70 (k95_ls7 F) (u010 7 (u000 Tryz.f40)) (k95_st7 list0 i6 yv ja n7) k = k95_s7 F list0 i6 yv ja R n7 (fun s => k (.norm (k95_st7 list0 i6 yv ja s))) (fun x => (k95_o7 list0 i6 yv ja x).run k) := by kernel_rfl
theorem k95_iter7 (F : Nat) (list0 : List (List Int)) (i6 : Int) (yv : List Int) (ja : List (List Int)) {R : Type} (k : Out → Option R) : ∀ (n : Nat) (n7 : Int), iterS tt (k95_tab F) (k95_LS0 F) 70 (k95_ls7 F) (u010 7 (u000 Tryz.f40)) n (k95_st7 list0 i6 yv ja n7) k = loopC (k95_s7 F list0 i6 yv ja) n n7 (fun x => (k95_o7 list0 i6 yv ja x).run k)
  | 0, n7 => rfl
  | n + 1, n7 => (u017 tt (k95_tab F) (k95_LS0 F) 70 (k95_ls7 F) (u010 7 (u000 Tryz.f40)) n (k95_st7 list0 i6 yv ja n7) k).trans ((k95_step7 F list0 i6 yv ja n7 (nextK (iterS tt (k95_tab F) (k95_LS0 F) 70 (k95_ls7 F) (u010 7 (u000 Tryz.f40)) n) k)).trans (congrArg (fun kn => k95_s7 F list0 i6 yv ja R n7 kn _) (funext (fun n7 => k95_iter7 F list0 i6 yv ja k n n7))))
theorem k95_lok7 (F : Nat) : u041 Tryz.prog (u010 7 (u000 Tryz.f40)) (k95_ls7 F) := by
  refine u019 mixed ttok deep (k95_tabok F) (u016 (k95_lsok0 F) 7) (fuel := 70) fun R vals mem np killed k x h => ?_
  simp only [k95_ls7] at h
  split at h
  · rename_i list0 q_out5 i6 n7 yv ja
    simp only [GT.run] at h
    have hc := (u007 h).1
    replace h := (u007 h).2
    have hg := (u013 hc).1
    replace hc := (u013 hc).2
    obtain rfl := u032 hg
    refine ⟨F, (k95_iter7 F list0 i6 yv ja k F n7).trans ((u020 (k95_s7_nat F list0 i6 yv ja) hc _).trans h)⟩
  · simp only [GT.run] at h
    cases h
noncomputable def k95_LS1 (F : Nat) : LT := (7, k95_ls7 F) :: k95_LS0 F
theorem k95_lsok1 (F : Nat) : u011 Tryz.prog (k95_LS1 F) (u000 Tryz.f40) := u012 k95_keys (k95_lok7 F) (k95_lsok0 F)
def k95_st3 (list0 : List (List Int)) (yo : List Int) (i6 : Int) (j7 : List (List Int)) : St := ⟨u018 55 0 [0, 3, 5, 6] [(.rr 16 list0), (.ptr 0 0 0 16), (.sl 1 0 (List.length j7)), (.int .i64 i6)], [(.var 16 (.ri .i64 yo)), (.vec 27 (.rr 16 j7))], 0, []⟩
def k95_o3 (list0 : List (List Int)) (yo : List Int) (x : List (List Int)) : GT := (.out (.exit 0 ⟨u018 55 0 [5] [(.sl 0 0 (List.length x))], [(.vec 27 (.rr 16 x))], 0, []⟩))
def k95_ls3 (F : Nat) : LoopS := ⟨55, [0, 3, 5, 6], [], [5], [], [4], [], [], fun vals mem np killed => match vals, mem, np, killed with
  | [(.rr 16 list0), (.ptr 0 0 0 16), (.sl 1 0 q_out5), (.int .i64 i6)], [(.var 16 (.ri .i64 yo)), (.vec 27 (.rr 16 j7))], 0, [] => .br ((Nat.beq q_out5 (List.length j7)) && (k95_l3 F list0 yo i6 j7).isSome) (k95_o3 list0 yo ((k95_l3 F list0 yo i6 j7).getD default)) .fail
  | _, _, _, _ => .fail⟩
theorem k95_step3 (F : Nat) (list0 : List (List Int)) (yo : List Int) (i6 : Int) (j7 : List (List Int)) {R : Type} (k : Out → Option R) : stepS tt (k95_tab F) (k95_LS1 F) 70 (k95_ls3 F) (u010 3 (u000 Tryz.f40)) (k95_st3 list0 yo i6 j7) k = k95_s3 F list0 yo R (i6, j7) (fun s => k (.norm (k95_st3 list0 yo s.1 s.2))) (fun x => (k95_o3 list0 yo x).run k) := by kernel_rfl
theorem k95_iter3 (F : Nat) (list0 : List (List Int)) (yo : List Int) {R : Type} (k : Out → Option R) : ∀ (n : Nat) (i6 : Int) (j7 : List (List Int)), iterS tt (k95_tab F) (k95_LS1 F) 70 (k95_ls3 F) (u010 3 (u000 Tryz.f40)) n (k95_st3 list0 yo i6 j7) k = loopC (k95_s3 F list0 yo) n (i6, j7) (fun x => (k95_o3 list0 yo x).run k)
  | 0, i6, j7 => rfl
  | n + 1, i6, j7 => (u017 tt (k95_tab F) (k95_LS1 F) 70 (k95_ls3 F) (u010 3 (u000 Tryz.f40)) n (k95_st3 list0 yo i6 j7) k).trans ((k95_step3 F list0 yo i6 j7 (nextK (iterS tt (k95_tab F) (k95_LS1 F) 70 (k95_ls3 F) (u010 3 (u000 Tryz.f40)) n) k)).trans (congrArg (fun kn => k95_s3 F list0 yo R (i6, j7) kn _) (funext (fun ⟨i6, j7⟩ => k95_iter3 F list0 yo k n i6 j7))))
theorem k95_lok3 (F : Nat) : u041 Tryz.prog (u010 3 (u000 Tryz.f40)) (k95_ls3 F) := by
  refine u019 mixed ttok deep (k95_tabok F) (u016 (k95_lsok1 F) 3) (fuel := 70) fun R vals mem np killed k x h => ?_
  simp only [k95_ls3] at h
  split at h
  · rename_i list0 q_out5 i6 yo j7
    simp only [GT.run] at h
    have hc := (u007 h).1
    replace h := (u007 h).2
    have hg := (u013 hc).1
    replace hc := (u013 hc).2
    obtain rfl := u032 hg
    refine ⟨F, (k95_iter3 F list0 yo k F i6 j7).trans ((u020 (k95_s3_nat F list0 yo) hc _).trans h)⟩
  · simp only [GT.run] at h
    cases h
noncomputable def k95_LS2 (F : Nat) : LT := (3, k95_ls3 F) :: k95_LS1 F
theorem k95_lsok2 (F : Nat) : u011 Tryz.prog (k95_LS2 F) (u000 Tryz.f40) := u012 k95_keys (k95_lok3 F) (k95_lsok1 F)
theorem k95_run (F : Nat) (list0 : List (List Int)) (vy : List Int) : runS tt (k95_tab F) (k95_LS2 F) [] [] Tryz.f40 (u000 Tryz.f40) 70 [(.rr 16 list0), (.ints 16 vy)] [] = k95_c _ F list0 vy (fun r => some ⟨(.sl 0 0 (List.length r)), [(.vec 27 (.rr 16 r))], []⟩) := by kernel_rfl
def k95_ent (F : Nat) : Ent := ⟨[], .fresh, fun args mem => match args, mem with
  | [(.rr 16 list0), (.ints 16 vy)], [] => some ((k95_p F list0 vy).isSome, ⟨(.sl 0 0 (List.length ((k95_p F list0 vy).getD default))), [(.vec 27 (.rr 16 ((k95_p F list0 vy).getD default)))], []⟩)
  | _, _ => none⟩
theorem k95_fok : FunOK Tryz.prog 40 := funOK Tryz.func40 (by kernel_rfl) rfl
theorem k95_meets (F : Nat) : Meets Tryz.prog 40 (k95_ent F) := by
  refine u002 mixed ttok deep (k95_tabok F) Tryz.func40 (u009 rfl) (k95_lsok2 F) fun args mem hfit ret h => ?_
  clear hfit
  simp only [k95_ent] at h
  split at h
  · rename_i list0 vy
    simp only [Option.some.injEq, Prod.mk.injEq] at h
    obtain ⟨hc, rfl⟩ := h
    exact ⟨[], [], 70, _, (k95_run F list0 vy).trans ((k95_cp _ F list0 vy _).trans (u014 hc _)), rfl, rfl, rfl⟩
  · cases h
noncomputable def k43_tab (F : Nat) : Tab := [(37, (k99_ent F)), (38, (k114_ent F)), (39, (k104_ent F)), (41, (k127_ent F)), (40, (k95_ent F))]
theorem k43_tabok (F : Nat) : TabOK Tryz.prog (k43_tab F) := (u001 (k99_meets F) k99_fok (u001 (k114_meets F) k114_fok (u001 (k104_meets F) k104_fok (u001 (k127_meets F) k127_fok (u001 (k95_meets F) k95_fok u015)))))
noncomputable def k43_LS0 (F : Nat) : LT := []
theorem k43_lsok0 (F : Nat) : u011 Tryz.prog (k43_LS0 F) (u000 Tryz.f7) := u005
theorem k43_run (F : Nat) (b0 : List Int) (j1 : Int) : runS tt (k43_tab F) (k43_LS0 F) [] [] Tryz.f7 (u000 Tryz.f7) 70 [(.ints 16 b0), (.int .i64 j1)] [] = k43_c _ F b0 j1 (fun r => some ⟨(.tup [(.sl 0 0 (List.length r.2)), (.bool r.1)]), [(.vec 27 (.rr 16 r.2))], []⟩) := by kernel_rfl
def k43_ent (F : Nat) : Ent := ⟨[], .fresh, fun args mem => match args, mem with
  | [(.ints 16 b0), (.int .i64 j1)], [] => some ((k43_p F b0 j1).isSome, ⟨(.tup [(.sl 0 0 (List.length ((k43_p F b0 j1).getD default).2)), (.bool ((k43_p F b0 j1).getD default).1)]), [(.vec 27 (.rr 16 ((k43_p F b0 j1).getD default).2))], []⟩)
  | _, _ => none⟩
theorem k43_fok : FunOK Tryz.prog 7 := funOK Tryz.func7 (by kernel_rfl) rfl
theorem k43_meets (F : Nat) : Meets Tryz.prog 7 (k43_ent F) := by
  refine u002 mixed ttok deep (k43_tabok F) Tryz.func7 (u009 rfl) (k43_lsok0 F) fun args mem hfit ret h => ?_
  clear hfit
  simp only [k43_ent] at h
  split at h
  · rename_i b0 j1
    simp only [Option.some.injEq, Prod.mk.injEq] at h
    obtain ⟨hc, rfl⟩ := h
    exact ⟨[], [], 70, _, (k43_run F b0 j1).trans ((k43_cp _ F b0 j1 _).trans (u014 hc _)), rfl, rfl, rfl⟩
  · cases h
noncomputable def k49_tab (F : Nat) : Tab := [(29, (k96_ent F)), (30, (k50_ent F)), (31, (k21_ent F))]
theorem k49_tabok (F : Nat) : TabOK Tryz.prog (k49_tab F) := (u001 (k96_meets F) k96_fok (u001 (k50_meets F) k50_fok (u001 (k21_meets F) k21_fok u015)))
noncomputable def k49_LS0 (F : Nat) : LT := []
theorem k49_lsok0 (F : Nat) : u011 Tryz.prog (k49_LS0 F) (u000 Tryz.f8) := u005
theorem k49_run (F : Nat) (b0 : List Int) (j1 : Int) : runS tt (k49_tab F) (k49_LS0 F) [] [] Tryz.f8 (u000 Tryz.f8) 70 [(.ints 16 b0), (.int .i64 j1)] [] = k49_c _ F b0 j1 (fun r => some ⟨(.tup [(.int .i64 r.1), (.bool r.2)]), [], []⟩) := by kernel_rfl
def k49_ent (F : Nat) : Ent := ⟨[], .quiet, fun args mem => match args, mem with
  | [(.ints 16 b0), (.int .i64 j1)], [] => some ((k49_p F b0 j1).isSome, ⟨(.tup [(.int .i64 ((k49_p F b0 j1).getD default).1), (.bool ((k49_p F b0 j1).getD default).2)]), [], []⟩)
  | _, _ => none⟩
theorem k49_fok : FunOK Tryz.prog 8 := funOK Tryz.func8 (by kernel_rfl) rfl
theorem k49_meets (F : Nat) : Meets Tryz.prog 8 (k49_ent F) := by
  refine u002 mixed ttok deep (k49_tabok F) Tryz.func8 (u009 rfl) (k49_lsok0 F) fun args mem hfit ret h => ?_
  clear hfit
  simp only [k49_ent] at h
  split at h
  · rename_i b0 j1
    simp only [Option.some.injEq, Prod.mk.injEq] at h
    obtain ⟨hc, rfl⟩ := h
    exact ⟨[], [], 70, _, (k49_run F b0 j1).trans ((k49_cp _ F b0 j1 _).trans (u014 hc _)), rfl, rfl, rfl⟩
  · cases h
noncomputable def k51_tab (F : Nat) : Tab := [(37, (k99_ent F)), (38, (k114_ent F)), (39, (k104_ent F))]
theorem k51_tabok (F : Nat) : TabOK Tryz.prog (k51_tab F) := (u001 (k99_meets F) k99_fok (u001 (k114_meets F) k114_fok (u001 (k104_meets F) k104_fok u015)))
noncomputable def k51_LS0 (F : Nat) : LT := []
theorem k51_lsok0 (F : Nat) : u011 Tryz.prog (k51_LS0 F) (u000 Tryz.f9) := u005
theorem k51_run (F : Nat) (b0 : List Int) (j1 : Int) : runS tt (k51_tab F) (k51_LS0 F) [] [] Tryz.f9 (u000 Tryz.f9) 70 [(.ints 16 b0), (.int .i64 j1)] [] = k51_c _ F b0 j1 (fun r => some ⟨(.tup [(.int .i64 r.1), (.bool r.2)]), [], []⟩) := by kernel_rfl
def k51_ent (F : Nat) : Ent := ⟨[], .quiet, fun args mem => match args, mem with
  | [(.ints 16 b0), (.int .i64 j1)], [] => some ((k51_p F b0 j1).isSome, ⟨(.tup [(.int .i64 ((k51_p F b0 j1).getD default).1), (.bool ((k51_p F b0 j1).getD default).2)]), [], []⟩)
  | _, _ => none⟩
theorem k51_fok : FunOK Tryz.prog 9 := funOK Tryz.func9 (by kernel_rfl) rfl
theorem k51_meets (F : Nat) : Meets Tryz.prog 9 (k51_ent F) := by
  refine u002 mixed ttok deep (k51_tabok F) Tryz.func9 (u009 rfl) (k51_lsok0 F) fun args mem hfit ret h => ?_
  clear hfit
  simp only [k51_ent] at h
  split at h
  · rename_i b0 j1
    simp only [Option.some.injEq, Prod.mk.injEq] at h
    obtain ⟨hc, rfl⟩ := h
    exact ⟨[], [], 70, _, (k51_run F b0 j1).trans ((k51_cp _ F b0 j1 _).trans (u014 hc _)), rfl, rfl, rfl⟩
  · cases h
noncomputable def k71_tab (F : Nat) : Tab := [(29, (k96_ent F)), (31, (k21_ent F))]
theorem k71_tabok (F : Nat) : TabOK Tryz.prog (k71_tab F) := (u001 (k96_meets F) k96_fok (u001 (k21_meets F) k21_fok u015))
noncomputable def k71_LS0 (F : Nat) : LT := []
theorem k71_lsok0 (F : Nat) : u011 Tryz.prog (k71_LS0 F) (u000 Tryz.f10) := u005
theorem k71_keys : u059 (u000 Tryz.f10) = true := by kernel_rfl
def k71_st5 (b6 : List Int) (yx : Int) (w5 : List Int) : St := ⟨u018 23 0 [1, 4, 10] [(.ptr 0 0 0 16), (.sl 1 0 (List.length w5)), (.int .i64 yx)], [(.var 16 (.ri .i64 b6)), (.vec 3 (.ri .i64 w5))], 0, []⟩
def k71_o5 (b6 : List Int) (x : List Int) : GT := (.out (.exit 0 ⟨u018 23 0 [4] [(.sl 0 0 (List.length x))], [(.vec 3 (.ri .i64 x))], 0, []⟩))
def k71_ls5 (F : Nat) : LoopS := ⟨23, [1, 4, 10], [], [4], [], [2, 3], [], [], fun vals mem np killed => match vals, mem, np, killed with
  | [(.ptr 0 0 0 16), (.sl 1 0 q_out4), (.int .i64 yx)], [(.var 16 (.ri .i64 b6)), (.vec 3 (.ri .i64 w5))], 0, [] => .br ((Nat.beq q_out4 (List.length w5)) && (k71_l5 F b6 yx w5).isSome) (k71_o5 b6 ((k71_l5 F b6 yx w5).getD default)) .fail
  | _, _, _, _ => .fail⟩
theorem k71_step5 (F : Nat) (b6 : List Int) (yx : Int) (w5 : List Int) {R : Type} (k : Out → Option R) : stepS tt (k71_tab F) (k71_LS0 F) 70 (k71_ls5 F) (u010 5 (u000 Tryz.f10)) (k71_st5 b6 yx w5) k = k71_s5 F b6 R (yx, w5) (fun s => k (.norm (k71_st5 b6 s.1 s.2))) (fun x => (k71_o5 b6 x).run k) := by kernel_rfl
theorem k71_iter5 (F : Nat) (b6 : List Int) {R : Type} (k : Out → Option R) : ∀ (n : Nat) (yx : Int) (w5 : List Int), iterS tt (k71_tab F) (k71_LS0 F) 70 (k71_ls5 F) (u010 5 (u000 Tryz.f10)) n (k71_st5 b6 yx w5) k = loopC (k71_s5 F b6) n (yx, w5) (fun x => (k71_o5 b6 x).run k)
  | 0, yx, w5 => rfl
  | n + 1, yx, w5 => (u017 tt (k71_tab F) (k71_LS0 F) 70 (k71_ls5 F) (u010 5 (u000 Tryz.f10)) n (k71_st5 b6 yx w5) k).trans ((k71_step5 F b6 yx w5 (nextK (iterS tt (k71_tab F) (k71_LS0 F) 70 (k71_ls5 F) (u010 5 (u000 Tryz.f10)) n) k)).trans (congrArg (fun kn => k71_s5 F b6 R (yx, w5) kn _) (funext (fun ⟨yx, w5⟩ => k71_iter5 F b6 k n yx w5))))
theorem k71_lok5 (F : Nat) : u041 Tryz.prog (u010 5 (u000 Tryz.f10)) (k71_ls5 F) := by
  refine u019 mixed ttok deep (k71_tabok F) (u016 (k71_lsok0 F) 5) (fuel := 70) fun R vals mem np killed k x h => ?_
  simp only [k71_ls5] at h
  split at h
  · rename_i q_out4 yx b6 w5
    simp only [GT.run] at h
    have hc := (u007 h).1
    replace h := (u007 h).2
    have hg := (u013 hc).1
    replace hc := (u013 hc).2
    obtain rfl := u032 hg
    refine ⟨F, (k71_iter5 F b6 k F yx w5).trans ((u020 (k71_s5_nat F b6) hc _).trans h)⟩
  · simp only [GT.run] at h
    cases h
noncomputable def k71_LS1 (F : Nat) : LT := (5, k71_ls5 F) :: k71_LS0 F
theorem k71_lsok1 (F : Nat) : u011 Tryz.prog (k71_LS1 F) (u000 Tryz.f10) := u012 k71_keys (k71_lok5 F) (k71_lsok0 F)
theorem k71_run (F : Nat) (b0 : List Int) : runS tt (k71_tab F) (k71_LS1 F) [⟨2, 3, (.ri .i64 ([] : List Int))⟩] [] Tryz.f10 (u000 Tryz.f10) 70 [(.ints 16 b0)] [] = k71_c _ F b0 (fun r => some ⟨(.tup [(.sl 0 0 (List.length r.2)), (.bool r.1)]), [(.vec 3 (.ri .i64 r.2))], []⟩) := by kernel_rfl
def k71_ent (F : Nat) : Ent := ⟨[], .fresh, fun args mem => match args, mem with
  | [(.ints 16 b0)], [] => some ((k71_p F b0).isSome, ⟨(.tup [(.sl 0 0 (List.length ((k71_p F b0).getD default).2)), (.bool ((k71_p F b0).getD default).1)]), [(.vec 3 (.ri .i64 ((k71_p F b0).getD default).2))], []⟩)
  | _, _ => none⟩
theorem k71_fok : FunOK Tryz.prog 10 := funOK Tryz.func10 (by kernel_rfl) rfl
theorem k71_meets (F : Nat) : Meets Tryz.prog 10 (k71_ent F) := by
  refine u002 mixed ttok deep (k71_tabok F) Tryz.func10 (u009 rfl) (k71_lsok1 F) fun args mem hfit ret h => ?_
  clear hfit
  simp only [k71_ent] at h
  split at h
  · rename_i b0
    simp only [Option.some.injEq, Prod.mk.injEq] at h
    obtain ⟨hc, rfl⟩ := h
    exact ⟨[⟨2, 3, (.ri .i64 ([] : List Int))⟩], [], 70, _, (k71_run F b0).trans ((k71_cp _ F b0 _).trans (u014 hc _)), rfl, rfl, rfl⟩
  · cases h
noncomputable def k106_tab (F : Nat) : Tab := [(39, (k104_ent F))]
theorem k106_tabok (F : Nat) : TabOK Tryz.prog (k106_tab F) := (u001 (k104_meets F) k104_fok u015)
noncomputable def k106_LS0 (F : Nat) : LT := []
theorem k106_lsok0 (F : Nat) : u011 Tryz.prog (k106_LS0 F) (u000 Tryz.f42) := u005
theorem k106_keys : u059 (u000 Tryz.f42) = true := by kernel_rfl
def k106_st3 (b6 : List Int) (d5 : Int) (w5 : List Int) : St := ⟨u018 19 0 [1, 3, 4] [(.ptr 0 0 0 16), (.sl 1 0 (List.length w5)), (.int .i64 d5)], [(.var 16 (.ri .i64 b6)), (.vec 3 (.ri .i64 w5))], 0, []⟩
def k106_o3 (b6 : List Int) (x : List Int) : GT := (.out (.exit 0 ⟨u018 19 0 [3] [(.sl 0 0 (List.length x))], [(.vec 3 (.ri .i64 x))], 0, []⟩))
def k106_ls3 (F : Nat) : LoopS := ⟨19, [1, 3, 4], [], [3], [], [2], [], [], fun vals mem np killed => match vals, mem, np, killed with
  | [(.ptr 0 0 0 16), (.sl 1 0 q_out4), (.int .i64 d5)], [(.var 16 (.ri .i64 b6)), (.vec 3 (.ri .i64 w5))], 0, [] => .br ((Nat.beq q_out4 (List.length w5)) && (k106_l3 F b6 d5 w5).isSome) (k106_o3 b6 ((k106_l3 F b6 d5 w5).getD default)) .fail
  | _, _, _, _ => .fail⟩
theorem k106_step3 (F : Nat) (b6 : List Int) (d5 : Int) (w5 : List Int) {R : Type} (k : Out → Option R) : stepS tt (k106_tab F) (k106_LS0 F) 70 (k106_ls3 F) (u010 3 (u000 Tryz.f42)) (k106_st3 b6 d5 w5) k = k106_s3 F b6 R (d5, w5) (fun s => k (.norm (k106_st3 b6 s.1 s.2))) (fun x => (k106_o3 b6 x).run k) := by kernel_rfl
theorem k106_iter3 (F : Nat) (b6 : List Int) {R : Type} (k : Out → Option R) : ∀ (n : Nat) (d5 : Int) (w5 : List Int), iterS tt (k106_tab F) (k106_LS0 F) 70 (k106_ls3 F) (u010 3 (u000 Tryz.f42)) n (k106_st3 b6 d5 w5) k = loopC (k106_s3 F b6) n (d5, w5) (fun x => (k106_o3 b6 x).run k)
  | 0, d5, w5 => rfl
  | n + 1, d5, w5 => (u017 tt (k106_tab F) (k106_LS0 F) 70 (k106_ls3 F) (u010 3 (u000 Tryz.f42)) n (k106_st3 b6 d5 w5) k).trans ((k106_step3 F b6 d5 w5 (nextK (iterS tt (k106_tab F) (k106_LS0 F) 70 (k106_ls3 F) (u010 3 (u000 Tryz.f42)) n) k)).trans (congrArg (fun kn => k106_s3 F b6 R (d5, w5) kn _) (funext (fun ⟨d5, w5⟩ => k106_iter3 F b6 k n d5 w5))))
theorem k106_lok3 (F : Nat) : u041 Tryz.prog (u010 3 (u000 Tryz.f42)) (k106_ls3 F) := by
  refine u019 mixed ttok deep (k106_tabok F) (u016 (k106_lsok0 F) 3) (fuel := 70) fun R vals mem np killed k x h => ?_
  simp only [k106_ls3] at h
  split at h
  · rename_i q_out4 d5 b6 w5
    simp only [GT.run] at h
    have hc := (u007 h).1
    replace h := (u007 h).2
    have hg := (u013 hc).1
    replace hc := (u013 hc).2
    obtain rfl := u032 hg
    refine ⟨F, (k106_iter3 F b6 k F d5 w5).trans ((u020 (k106_s3_nat F b6) hc _).trans h)⟩
  · simp only [GT.run] at h
    cases h
noncomputable def k106_LS1 (F : Nat) : LT := (3, k106_ls3 F) :: k106_LS0 F
theorem k106_lsok1 (F : Nat) : u011 Tryz.prog (k106_LS1 F) (u000 Tryz.f42) := u012 k106_keys (k106_lok3 F) (k106_lsok0 F)
theorem k106_run (F : Nat) (b0 : List Int) : runS tt (k106_tab F) (k106_LS1 F) [] [] Tryz.f42 (u000 Tryz.f42) 70 [(.ints 16 b0)] [] = k106_c _ F b0 (fun r => some ⟨(.sl 0 0 (List.length r)), [(.vec 3 (.ri .i64 r))], []⟩) := by kernel_rfl
def k106_ent (F : Nat) : Ent := ⟨[], .fresh, fun args mem => match args, mem with
  | [(.ints 16 b0)], [] => some ((k106_p F b0).isSome, ⟨(.sl 0 0 (List.length ((k106_p F b0).getD default))), [(.vec 3 (.ri .i64 ((k106_p F b0).getD default)))], []⟩)
  | _, _ => none⟩
theorem k106_fok : FunOK Tryz.prog 42 := funOK Tryz.func42 (by kernel_rfl) rfl
theorem k106_meets (F : Nat) : Meets Tryz.prog 42 (k106_ent F) := by
  refine u002 mixed ttok deep (k106_tabok F) Tryz.func42 (u009 rfl) (k106_lsok1 F) fun args mem hfit ret h => ?_
  clear hfit
  simp only [k106_ent] at h
  split at h
  · rename_i b0
    simp only [Option.some.injEq, Prod.mk.injEq] at h
    obtain ⟨hc, rfl⟩ := h
    exact ⟨[], [], 70, _, (k106_run F b0).trans ((k106_cp _ F b0 _).trans (u014 hc _)), rfl, rfl, rfl⟩
  · cases h
noncomputable def k72_tab (F : Nat) : Tab := [(37, (k99_ent F)), (42, (k106_ent F))]
theorem k72_tabok (F : Nat) : TabOK Tryz.prog (k72_tab F) := (u001 (k99_meets F) k99_fok (u001 (k106_meets F) k106_fok u015))
noncomputable def k72_LS0 (F : Nat) : LT := []
theorem k72_lsok0 (F : Nat) : u011 Tryz.prog (k72_LS0 F) (u000 Tryz.f11) := u005
theorem k72_run (F : Nat) (b0 : List Int) : runS tt (k72_tab F) (k72_LS0 F) [] [] Tryz.f11 (u000 Tryz.f11) 70 [(.ints 16 b0)] [] = k72_c _ F b0 (fun r => some ⟨(.tup [(.sl 0 0 (List.length r.2)), (.bool r.1)]), [(.vec 3 (.ri .i64 r.2))], []⟩) := by kernel_rfl
def k72_ent (F : Nat) : Ent := ⟨[], .fresh, fun args mem => match args, mem with
  | [(.ints 16 b0)], [] => some ((k72_p F b0).isSome, ⟨(.tup [(.sl 0 0 (List.length ((k72_p F b0).getD default).2)), (.bool ((k72_p F b0).getD default).1)]), [(.vec 3 (.ri .i64 ((k72_p F b0).getD default).2))], []⟩)
  | _, _ => none⟩
theorem k72_fok : FunOK Tryz.prog 11 := funOK Tryz.func11 (by kernel_rfl) rfl
theorem k72_meets (F : Nat) : Meets Tryz.prog 11 (k72_ent F) := by
  refine u002 mixed ttok deep (k72_tabok F) Tryz.func11 (u009 rfl) (k72_lsok0 F) fun args mem hfit ret h => ?_
  clear hfit
  simp only [k72_ent] at h
  split at h
  · rename_i b0
    simp only [Option.some.injEq, Prod.mk.injEq] at h
    obtain ⟨hc, rfl⟩ := h
    exact ⟨[], [], 70, _, (k72_run F b0).trans ((k72_cp _ F b0 _).trans (u014 hc _)), rfl, rfl, rfl⟩
  · cases h
noncomputable def k122_tab (F : Nat) : Tab := []
theorem k122_tabok (F : Nat) : TabOK Tryz.prog (k122_tab F) := u015
noncomputable def k122_LS0 (F : Nat) : LT := []
theorem k122_lsok0 (F : Nat) : u011 Tryz.prog (k122_LS0 F) (u000 Tryz.f12) := u005
theorem k122_keys : u059 (u000 Tryz.f12) = true := by kernel_rfl
def k122_st4 (a0 : List Int) (b1 : List Int) (i2 : Int) : St := ⟨u018 26 0 [0, 1, 5] [(.ri .i64 a0), (.ri .i64 b1), (.int .i64 i2)], [], 0, []⟩
def k122_o4 (a0 : List Int) (b1 : List Int) (x : Bool) : GT := (.br x (.out (.ret ⟨u018 26 0 [4] [(.bool false)], [], 0, []⟩)) (.out (.exit 0 ⟨u018 26 0 [] [], [], 0, []⟩)))
def k122_ls4 (F : Nat) : LoopS := ⟨26, [0, 1, 5], [], [], [], [4], [], [], fun vals mem np killed => match vals, mem, np, killed with
  | [(.ri .i64 a0), (.ri .i64 b1), (.int .i64 i2)], [], 0, [] => .br (k122_l4 F a0 b1 i2).isSome (k122_o4 a0 b1 ((k122_l4 F a0 b1 i2).getD default)) .fail
  | _, _, _, _ => .fail⟩
theorem k122_step4 (F : Nat) (a0 : List Int) (b1 : List Int) (i2 : Int) {R : Type} (k : Out → Option R) : stepS tt (k122_tab F) (k122_LS0 F) 70 (k122_ls4 F) (u010 4 (u000 Tryz.f12)) (k122_st4 a0 b1 i2) k = k122_s4 F a0 b1 R i2 (fun s => k (.norm (k122_st4 a0 b1 s))) (fun x => (k122_o4 a0 b1 x).run k) := by kernel_rfl
theorem k122_iter4 (F : Nat) (a0 : List Int) (b1 : List Int) {R : Type} (k : Out → Option R) : ∀ (n : Nat) (i2 : Int), iterS tt (k122_tab F) (k122_LS0 F) 70 (k122_ls4 F) (u010 4 (u000 Tryz.f12)) n (k122_st4 a0 b1 i2) k = loopC (k122_s4 F a0 b1) n i2 (fun x => (k122_o4 a0 b1 x).run k)
  | 0, i2 => rfl
  | n + 1, i2 => (u017 tt (k122_tab F) (k122_LS0 F) 70 (k122_ls4 F) (u010 4 (u000 Tryz.f12)) n (k122_st4 a0 b1 i2) k).trans ((k122_step4 F a0 b1 i2 (nextK (iterS tt (k122_tab F) (k122_LS0 F) 70 (k122_ls4 F) (u010 4 (u000 Tryz.f12)) n) k)).trans (congrArg (fun kn => k122_s4 F a0 b1 R i2 kn _) (funext (fun i2 => k122_iter4 F a0 b1 k n i2))))
theorem k122_lok4 (F : Nat) : u041 Tryz.prog (u010 4 (u000 Tryz.f12)) (k122_ls4 F) := by
  refine u019 mixed ttok deep (k122_tabok F) (u016 (k122_lsok0 F) 4) (fuel := 70) fun R vals mem np killed k x h => ?_
  simp only [k122_ls4] at h
  split at h
  · rename_i a0 b1 i2
    simp only [GT.run] at h
    have hc := (u007 h).1
    replace h := (u007 h).2
    refine ⟨F, (k122_iter4 F a0 b1 k F i2).trans ((u020 (k122_s4_nat F a0 b1) hc _).trans h)⟩
  · simp only [GT.run] at h
    cases h
noncomputable def k122_LS1 (F : Nat) : LT := (4, k122_ls4 F) :: k122_LS0 F
theorem k122_lsok1 (F : Nat) : u011 Tryz.prog (k122_LS1 F) (u000 Tryz.f12) := u012 k122_keys (k122_lok4 F) (k122_lsok0 F)
theorem k122_run (F : Nat) (a0 : List Int) (b1 : List Int) : runS tt (k122_tab F) (k122_LS1 F) [] [] Tryz.f12 (u000 Tryz.f12) 70 [(.ri .i64 a0), (.ri .i64 b1)] [] = k122_c _ F a0 b1 (fun r => some ⟨(.bool r), [], []⟩) := by kernel_rfl
def k122_ent (F : Nat) : Ent := ⟨[], .quiet, fun args mem => match args, mem with
  | [(.ri .i64 a0), (.ri .i64 b1)], [] => some ((k122_p F a0 b1).isSome, ⟨(.bool ((k122_p F a0 b1).getD default)), [], []⟩)
  | _, _ => none⟩
theorem k122_fok : FunOK Tryz.prog 12 := funOK Tryz.func12 (by kernel_rfl) rfl
theorem k122_meets (F : Nat) : Meets Tryz.prog 12 (k122_ent F) := by
  refine u002 mixed ttok deep (k122_tabok F) Tryz.func12 (u009 rfl) (k122_lsok1 F) fun args mem hfit ret h => ?_
  clear hfit
  simp only [k122_ent] at h
  split at h
  · rename_i a0 b1
    simp only [Option.some.injEq, Prod.mk.injEq] at h
    obtain ⟨hc, rfl⟩ := h
    exact ⟨[], [], 70, _, (k122_run F a0 b1).trans ((k122_cp _ F a0 b1 _).trans (u014 hc _)), rfl, rfl, rfl⟩
  · cases h
noncomputable def k129_tab (F : Nat) : Tab := []
theorem k129_tabok (F : Nat) : TabOK Tryz.prog (k129_tab F) := u015
noncomputable def k129_LS0 (F : Nat) : LT := []
theorem k129_lsok0 (F : Nat) : u011 Tryz.prog (k129_LS0 F) (u000 Tryz.f13) := u005
theorem k129_keys : u059 (u000 Tryz.f13) = true := by kernel_rfl
def k129_st2 (list0 : List Int) (x1 : Int) (i2 : Int) : St := ⟨u018 18 0 [0, 1, 5] [(.ri .i64 list0), (.int .i64 x1), (.int .i64 i2)], [], 0, []⟩
def k129_o2 (list0 : List Int) (x1 : Int) (x : Bool) : GT := (.br x (.out (.ret ⟨u018 18 0 [4] [(.bool true)], [], 0, []⟩)) (.out (.exit 0 ⟨u018 18 0 [] [], [], 0, []⟩)))
def k129_ls2 (F : Nat) : LoopS := ⟨18, [0, 1, 5], [], [], [], [4], [], [], fun vals mem np killed => match vals, mem, np, killed with
  | [(.ri .i64 list0), (.int .i64 x1), (.int .i64 i2)], [], 0, [] => .br (k129_l2 F list0 x1 i2).isSome (k129_o2 list0 x1 ((k129_l2 F list0 x1 i2).getD default)) .fail
  | _, _, _, _ => .fail⟩
theorem k129_step2 (F : Nat) (list0 : List Int) (x1 : Int) (i2 : Int) {R : Type} (k : Out → Option R) : stepS tt (k129_tab F) (k129_LS0 F) 70 (k129_ls2 F) (u010 2 (u000 Tryz.f13)) (k129_st2 list0 x1 i2) k = k129_s2 F list0 x1 R i2 (fun s => k (.norm (k129_st2 list0 x1 s))) (fun x => (k129_o2 list0 x1 x).run k) := by kernel_rfl
theorem k129_iter2 (F : Nat) (list0 : List Int) (x1 : Int) {R : Type} (k : Out → Option R) : ∀ (n : Nat) (i2 : Int), iterS tt (k129_tab F) (k129_LS0 F) 70 (k129_ls2 F) (u010 2 (u000 Tryz.f13)) n (k129_st2 list0 x1 i2) k = loopC (k129_s2 F list0 x1) n i2 (fun x => (k129_o2 list0 x1 x).run k)
  | 0, i2 => rfl
  | n + 1, i2 => (u017 tt (k129_tab F) (k129_LS0 F) 70 (k129_ls2 F) (u010 2 (u000 Tryz.f13)) n (k129_st2 list0 x1 i2) k).trans ((k129_step2 F list0 x1 i2 (nextK (iterS tt (k129_tab F) (k129_LS0 F) 70 (k129_ls2 F) (u010 2 (u000 Tryz.f13)) n) k)).trans (congrArg (fun kn => k129_s2 F list0 x1 R i2 kn _) (funext (fun i2 => k129_iter2 F list0 x1 k n i2))))
theorem k129_lok2 (F : Nat) : u041 Tryz.prog (u010 2 (u000 Tryz.f13)) (k129_ls2 F) := by
  refine u019 mixed ttok deep (k129_tabok F) (u016 (k129_lsok0 F) 2) (fuel := 70) fun R vals mem np killed k x h => ?_
  simp only [k129_ls2] at h
  split at h
  · rename_i list0 x1 i2
    simp only [GT.run] at h
    have hc := (u007 h).1
    replace h := (u007 h).2
    refine ⟨F, (k129_iter2 F list0 x1 k F i2).trans ((u020 (k129_s2_nat F list0 x1) hc _).trans h)⟩
  · simp only [GT.run] at h
    cases h
noncomputable def k129_LS1 (F : Nat) : LT := (2, k129_ls2 F) :: k129_LS0 F
theorem k129_lsok1 (F : Nat) : u011 Tryz.prog (k129_LS1 F) (u000 Tryz.f13) := u012 k129_keys (k129_lok2 F) (k129_lsok0 F)
theorem k129_run (F : Nat) (list0 : List Int) (x1 : Int) : runS tt (k129_tab F) (k129_LS1 F) [] [] Tryz.f13 (u000 Tryz.f13) 70 [(.ri .i64 list0), (.int .i64 x1)] [] = k129_c _ F list0 x1 (fun r => some ⟨(.bool r), [], []⟩) := by kernel_rfl
def k129_ent (F : Nat) : Ent := ⟨[], .quiet, fun args mem => match args, mem with
  | [(.ri .i64 list0), (.int .i64 x1)], [] => some ((k129_p F list0 x1).isSome, ⟨(.bool ((k129_p F list0 x1).getD default)), [], []⟩)
  | _, _ => none⟩
theorem k129_fok : FunOK Tryz.prog 13 := funOK Tryz.func13 (by kernel_rfl) rfl
theorem k129_meets (F : Nat) : Meets Tryz.prog 13 (k129_ent F) := by
  refine u002 mixed ttok deep (k129_tabok F) Tryz.func13 (u009 rfl) (k129_lsok1 F) fun args mem hfit ret h => ?_
  clear hfit
  simp only [k129_ent] at h
  split at h
  · rename_i list0 x1
    simp only [Option.some.injEq, Prod.mk.injEq] at h
    obtain ⟨hc, rfl⟩ := h
    exact ⟨[], [], 70, _, (k129_run F list0 x1).trans ((k129_cp _ F list0 x1 _).trans (u014 hc _)), rfl, rfl, rfl⟩
  · cases h
noncomputable def k108_tab (F : Nat) : Tab := [(10, (k71_ent F))]
theorem k108_tabok (F : Nat) : TabOK Tryz.prog (k108_tab F) := (u001 (k71_meets F) k71_fok u015)
noncomputable def k108_LS0 (F : Nat) : LT := []
theorem k108_lsok0 (F : Nat) : u011 Tryz.prog (k108_LS0 F) (u000 Tryz.f14) := u005
theorem k108_run (F : Nat) (b0 : List Int) : runS tt (k108_tab F) (k108_LS0 F) [] [] Tryz.f14 (u000 Tryz.f14) 70 [(.ints 16 b0)] [] = k108_c _ F b0 (fun r => some ⟨(.tup [(.bool r.1), (.bool r.2)]), [], []⟩) := by kernel_rfl
def k108_ent (F : Nat) : Ent := ⟨[], .quiet, fun args mem => match args, mem with
  | [(.ints 16 b0)], [] => some ((k108_p F b0).isSome, ⟨(.tup [(.bool ((k108_p F b0).getD default).1), (.bool ((k108_p F b0).getD default).2)]), [], []⟩)
  | _, _ => none⟩
theorem k108_fok : FunOK Tryz.prog 14 := funOK Tryz.func14 (by kernel_rfl) rfl
theorem k108_meets (F : Nat) : Meets Tryz.prog 14 (k108_ent F) := by
  refine u002 mixed ttok deep (k108_tabok F) Tryz.func14 (u009 rfl) (k108_lsok0 F) fun args mem hfit ret h => ?_
  clear hfit
  simp only [k108_ent] at h
  split at h
  · rename_i b0
    simp only [Option.some.injEq, Prod.mk.injEq] at h
    obtain ⟨hc, rfl⟩ := h
    exact ⟨[], [], 70, _, (k108_run F b0).trans ((k108_cp _ F b0 _).trans (u014 hc _)), rfl, rfl, rfl⟩
  · cases h
noncomputable def k112_tab (F : Nat) : Tab := [(37, (k99_ent F)), (42, (k106_ent F))]
theorem k112_tabok (F : Nat) : TabOK Tryz.prog (k112_tab F) := (u001 (k99_meets F) k99_fok (u001 (k106_meets F) k106_fok u015))
noncomputable def k112_LS0 (F : Nat) : LT := []
theorem k112_lsok0 (F : Nat) : u011 Tryz.prog (k112_LS0 F) (u000 Tryz.f15) := u005
theorem k112_run (F : Nat) (b0 : List Int) : runS tt (k112_tab F) (k112_LS0 F) [] [] Tryz.f15 (u000 Tryz.f15) 70 [(.ints 16 b0)] [] = k112_c _ F b0 (fun r => some ⟨(.tup [(.bool r.1), (.bool r.2)]), [], []⟩) := by kernel_rfl
def k112_ent (F : Nat) : Ent := ⟨[], .quiet, fun args mem => match args, mem with
  | [(.ints 16 b0)], [] => some ((k112_p F b0).isSome, ⟨(.tup [(.bool ((k112_p F b0).getD default).1), (.bool ((k112_p F b0).getD default).2)]), [], []⟩)
  | _, _ => none⟩
theorem k112_fok : FunOK Tryz.prog 15 := funOK Tryz.func15 (by kernel_rfl) rfl
theorem k112_meets (F : Nat) : Meets Tryz.prog 15 (k112_ent F) := by
  refine u002 mixed ttok deep (k112_tabok F) Tryz.func15 (u009 rfl) (k112_lsok0 F) fun args mem hfit ret h => ?_
  clear hfit
  simp only [k112_ent] at h
  split at h
  · rename_i b0
    simp only [Option.some.injEq, Prod.mk.injEq] at h
    obtain ⟨hc, rfl⟩ := h
    exact ⟨[], [], 70, _, (k112_run F b0).trans ((k112_cp _ F b0 _).trans (u014 hc _)), rfl, rfl, rfl⟩
  · cases h
noncomputable def k81_tab (F : Nat) : Tab := [(29, (k96_ent F)), (31, (k21_ent F))]
theorem k81_tabok (F : Nat) : TabOK Tryz.prog (k81_tab F) := (u001 (k96_meets F) k96_fok (u001 (k21_meets F) k21_fok u015))
noncomputable def k81_LS0 (F : Nat) : LT := []
theorem k81_lsok0 (F : Nat) : u011 Tryz.prog (k81_LS0 F) (u000 Tryz.f16) := u005
theorem k81_run (F : Nat) (b0 : List Int) : runS tt (k81_tab F) (k81_LS0 F) [] [] Tryz.f16 (u000 Tryz.f16) 70 [(.ints 16 b0)] [] = k81_c _ F b0 (fun r => some ⟨(.tup [(.ints 4 r.1), (.bool r.2)]), [], []⟩) := by kernel_rfl
def k81_ent (F : Nat) : Ent := ⟨[], .quiet, fun args mem => match args, mem with
  | [(.ints 16 b0)], [] => some ((k81_p F b0).isSome, ⟨(.tup [(.ints 4 ((k81_p F b0).getD default).1), (.bool ((k81_p F b0).getD default).2)]), [], []⟩)
  | _, _ => none⟩
theorem k81_fok : FunOK Tryz.prog 16 := funOK Tryz.func16 (by kernel_rfl) rfl
theorem k81_meets (F : Nat) : Meets Tryz.prog 16 (k81_ent F) := by
  refine u002 mixed ttok deep (k81_tabok F) Tryz.func16 (u009 rfl) (k81_lsok0 F) fun args mem hfit ret h => ?_
  clear hfit
  simp only [k81_ent] at h
  split at h
  · rename_i b0
    simp only [Option.some.injEq, Prod.mk.injEq] at h
    obtain ⟨hc, rfl⟩ := h
    exact ⟨[], [], 70, _, (k81_run F b0).trans ((k81_cp _ F b0 _).trans (u014 hc _)), rfl, rfl, rfl⟩
  · cases h
noncomputable def k91_tab (F : Nat) : Tab := [(37, (k99_ent F)), (39, (k104_ent F))]
theorem k91_tabok (F : Nat) : TabOK Tryz.prog (k91_tab F) := (u001 (k99_meets F) k99_fok (u001 (k104_meets F) k104_fok u015))
noncomputable def k91_LS0 (F : Nat) : LT := []
theorem k91_lsok0 (F : Nat) : u011 Tryz.prog (k91_LS0 F) (u000 Tryz.f17) := u005
theorem k91_run (F : Nat) (b0 : List Int) : runS tt (k91_tab F) (k91_LS0 F) [] [] Tryz.f17 (u000 Tryz.f17) 70 [(.ints 16 b0)] [] = k91_c _ F b0 (fun r => some ⟨(.tup [(.ints 4 r.1), (.bool r.2)]), [], []⟩) := by kernel_rfl
def k91_ent (F : Nat) : Ent := ⟨[], .quiet, fun args mem => match args, mem with
  | [(.ints 16 b0)], [] => some ((k91_p F b0).isSome, ⟨(.tup [(.ints 4 ((k91_p F b0).getD default).1), (.bool ((k91_p F b0).getD default).2)]), [], []⟩)
  | _, _ => none⟩
theorem k91_fok : FunOK Tryz.prog 17 := funOK Tryz.func17 (by kernel_rfl) rfl
theorem k91_meets (F : Nat) : Meets Tryz.prog 17 (k91_ent F) := by
  refine u002 mixed ttok deep (k91_tabok F) Tryz.func17 (u009 rfl) (k91_lsok0 F) fun args mem hfit ret h => ?_
  clear hfit
  simp only [k91_ent] at h
  split at h
  · rename_i b0
    simp only [Option.some.injEq, Prod.mk.injEq] at h
    obtain ⟨hc, rfl⟩ := h
    exact ⟨[], [], 70, _, (k91_run F b0).trans ((k91_cp _ F b0 _).trans (u014 hc _)), rfl, rfl, rfl⟩
  · cases h
noncomputable def k100_tab (F : Nat) : Tab := []
theorem k100_tabok (F : Nat) : TabOK Tryz.prog (k100_tab F) := u015
noncomputable def k100_LS0 (F : Nat) : LT := []
theorem k100_lsok0 (F : Nat) : u011 Tryz.prog (k100_LS0 F) (u000 Tryz.f44) := u005
theorem k100_keys : u059 (u000 Tryz.f44) = true := by kernel_rfl
def k100_st6 (r5 : Int) (b7 : List Int) (c6 : Int) (j7 : List (List Int)) : St := ⟨u018 29 0 [1, 3, 4, 5] [(.ptr 0 0 0 16), (.sl 1 0 (List.length j7)), (.int .i64 r5), (.int .i64 c6)], [(.var 16 (.ri .i64 b7)), (.vec 56 (.rr 2 j7))], 0, []⟩
def k100_o6 (r5 : Int) (b7 : List Int) (x : List (List Int)) : GT := (.out (.exit 2 ⟨u018 29 0 [1, 3, 4] [(.ptr 0 0 0 16), (.sl 1 0 (List.length x)), (.int .i64 r5)], [(.var 16 (.ri .i64 b7)), (.vec 56 (.rr 2 x))], 0, []⟩))
def k100_ls6 (F : Nat) : LoopS := ⟨29, [1, 3, 4, 5], [], [1, 3, 4], [], [2], [], [], fun vals mem np killed => match vals, mem, np, killed with
  | [(.ptr 0 0 0 16), (.sl 1 0 q_out4), (.int .i64 r5), (.int .i64 c6)], [(.var 16 (.ri .i64 b7)), (.vec 56 (.rr 2 j7))], 0, [] => .br ((Nat.beq q_out4 (List.length j7)) && (k100_l6 F r5 b7 c6 j7).isSome) (k100_o6 r5 b7 ((k100_l6 F r5 b7 c6 j7).getD default)) .fail
  | _, _, _, _ => .fail⟩
theorem k100_step6 (F : Nat) (r5 : Int) (b7 : List Int) (c6 : Int) (j7 : List (List Int)) {R : Type} (k : Out → Option R) : stepS tt (k100_tab F) (k100_LS0 F) 70 (k100_ls6 F) (u010 6 (u000 Tryz.f44)) (k100_st6 r5 b7 c6 j7) k = k100_s6 F r5 b7 R (c6, j7) (fun s => k (.norm (k100_st6 r5 b7 s.1 s.2))) (fun x => (k100_o6 r5 b7 x).run k) := by kernel_rfl
theorem k100_iter6 (F : Nat) (r5 : Int) (b7 : List Int) {R : Type} (k : Out → Option R) : ∀ (n : Nat) (c6 : Int) (j7 : List (List Int)), iterS tt (k100_tab F) (k100_LS0 F) 70 (k100_ls6 F) (u010 6 (u000 Tryz.f44)) n (k100_st6 r5 b7 c6 j7) k = loopC (k100_s6 F r5 b7) n (c6, j7) (fun x => (k100_o6 r5 b7 x).run k)
  | 0, c6, j7 => rfl
  | n + 1, c6, j7 => (u017 tt (k100_tab F) (k100_LS0 F) 70 (k100_ls6 F) (u010 6 (u000 Tryz.f44)) n (k100_st6 r5 b7 c6 j7) k).trans ((k100_step6 F r5 b7 c6 j7 (nextK (iterS tt (k100_tab F) (k100_LS0 F) 70 (k100_ls6 F) (u010 6 (u000 Tryz.f44)) n) k)).trans (congrArg (fun kn => k100_s6 F r5 b7 R (c6, j7) kn _) (funext (fun ⟨c6, j7⟩ => k100_iter6 F r5 b7 k n c6 j7))))
theorem k100_lok6 (F : Nat) : u041 Tryz.prog (u010 6 (u000 Tryz.f44)) (k100_ls6 F) := by
  refine u019 mixed ttok deep (k100_tabok F) (u016 (k100_lsok0 F) 6) (fuel := 70) fun R vals mem np killed k x h => ?_
  simp only [k100_ls6] at h
  split at h
  · rename_i q_out4 r5 c6 b7 j7
    simp only [GT.run] at h
    have hc := (u007 h).1
    replace h := (u007 h).2
    have hg := (u013 hc).1
    replace hc := (u013 hc).2
    obtain rfl := u032 hg
    refine ⟨F, (k100_iter6 F r5 b7 k F c6 j7).trans ((u020 (k100_s6_nat F r5 b7) hc _).trans h)⟩
  · simp only [GT.run] at h
    cases h
noncomputable def k100_LS1 (F : Nat) : LT := (6, k100_ls6 F) :: k100_LS0 F
theorem k100_lsok1 (F : Nat) : u011 Tryz.prog (k100_LS1 F) (u000 Tryz.f44) := u012 k100_keys (k100_lok6 F) (k100_lsok0 F)
def k100_st3 (b6 : List Int) (r5 : Int) (w5 : List (List Int)) : St := ⟨u018 29 0 [1, 3, 4] [(.ptr 0 0 0 16), (.sl 1 0 (List.length w5)), (.int .i64 r5)], [(.var 16 (.ri .i64 b6)), (.vec 56 (.rr 2 w5))], 0, []⟩
def k100_o3 (b6 : List Int) (x : List (List Int)) : GT := (.out (.exit 0 ⟨u018 29 0 [3] [(.sl 0 0 (List.length x))], [(.vec 56 (.rr 2 x))], 0, []⟩))
def k100_ls3 (F : Nat) : LoopS := ⟨29, [1, 3, 4], [], [3], [], [2], [], [], fun vals mem np killed => match vals, mem, np, killed with
  | [(.ptr 0 0 0 16), (.sl 1 0 q_out4), (.int .i64 r5)], [(.var 16 (.ri .i64 b6)), (.vec 56 (.rr 2 w5))], 0, [] => .br ((Nat.beq q_out4 (List.length w5)) && (k100_l3 F b6 r5 w5).isSome) (k100_o3 b6 ((k100_l3 F b6 r5 w5).getD default)) .fail
  | _, _, _, _ => .fail⟩
theorem k100_step3 (F : Nat) (b6 : List Int) (r5 : Int) (w5 : List (List Int)) {R : Type} (k : Out → Option R) : stepS tt (k100_tab F) (k100_LS1 F) 70 (k100_ls3 F) (u010 3 (u000 Tryz.f44)) (k100_st3 b6 r5 w5) k = k100_s3 F b6 R (r5, w5) (fun s => k (.norm (k100_st3 b6 s.1 s.2))) (fun x => (k100_o3 b6 x).run k) := by kernel_rfl
theorem k100_iter3 (F : Nat) (b6 : List Int) {R : Type} (k : Out → Option R) : ∀ (n : Nat) (r5 : Int) (w5 : List (List Int)), iterS tt (k100_tab F) (k100_LS1 F) 70 (k100_ls3 F) (u010 3 (u000 Tryz.f44)) n (k100_st3 b6 r5 w5) k = loopC (k100_s3 F b6) n (r5, w5) (fun x => (k100_o3 b6 x).run k)
  | 0, r5, w5 => rfl
  | n + 1, r5, w5 => (u017 tt (k100_tab F) (k100_LS1 F) 70 (k100_ls3 F) (u010 3 (u000 Tryz.f44)) n (k100_st3 b6 r5 w5) k).trans ((k100_step3 F b6 r5 w5 (nextK (iterS tt (k100_tab F) (k100_LS1 F) 70 (k100_ls3 F) (u010 3 (u000 Tryz.f44)) n) k)).trans (congrArg (fun kn => k100_s3 F b6 R (r5, w5) kn _) (funext (fun ⟨r5, w5⟩ => k100_iter3 F b6 k n r5 w5))))
theorem k100_lok3 (F : Nat) : u041 Tryz.prog (u010 3 (u000 Tryz.f44)) (k100_ls3 F) := by
  refine u019 mixed ttok deep (k100_tabok F) (u016 (k100_lsok1 F) 3) (fuel := 70) fun R vals mem np killed k x h => ?_
  simp only [k100_ls3] at h
  split at h
  · rename_i q_out4 r5 b6 w5
    simp only [GT.run] at h
    have hc := (u007 h).1
    replace h := (u007 h).2
    have hg := (u013 hc).1
    replace hc := (u013 hc).2
    obtain rfl := u032 hg
    refine ⟨F, (k100_iter3 F b6 k F r5 w5).trans ((u020 (k100_s3_nat F b6) hc _).trans h)⟩
  · simp only [GT.run] at h
    cases h
noncomputable def k100_LS2 (F : Nat) : LT := (3, k100_ls3 F) :: k100_LS1 F
theorem k100_lsok2 (F : Nat) : u011 Tryz.prog (k100_LS2 F) (u000 Tryz.f44) := u012 k100_keys (k100_lok3 F) (k100_lsok1 F)
theorem k100_run (F : Nat) (b0 : List Int) : runS tt (k100_tab F) (k100_LS2 F) [] [] Tryz.f44 (u000 Tryz.f44) 70 [(.ints 16 b0)] [] = k100_c _ F b0 (fun r => some ⟨(.sl 0 0 (List.length r)), [(.vec 56 (.rr 2 r))], []⟩) := by kernel_rfl
def k100_ent (F : Nat) : Ent := ⟨[], .fresh, fun args mem => match args, mem with
  | [(.ints 16 b0)], [] => some ((k100_p F b0).isSome, ⟨(.sl 0 0 (List.length ((k100_p F b0).getD default))), [(.vec 56 (.rr 2 ((k100_p F b0).getD default)))], []⟩)
  | _, _ => none⟩
theorem k100_fok : FunOK Tryz.prog 44 := funOK Tryz.func44 (by kernel_rfl) rfl
theorem k100_meets (F : Nat) : Meets Tryz.prog 44 (k100_ent F) := by
  refine u002 mixed ttok deep (k100_tabok F) Tryz.func44 (u009 rfl) (k100_lsok2 F) fun args mem hfit ret h => ?_
  clear hfit
  simp only [k100_ent] at h
  split at h
  · rename_i b0
    simp only [Option.some.injEq, Prod.mk.injEq] at h
    obtain ⟨hc, rfl⟩ := h
    exact ⟨[], [], 70, _, (k100_run F b0).trans ((k100_cp _ F b0 _).trans (u014 hc _)), rfl, rfl, rfl⟩
  · cases h
noncomputable def k44_tab (F : Nat) : Tab := [(43, (k65_ent F)), (44, (k100_ent F)), (37, (k99_ent F)), (46, (k67_ent F)), (45, (k124_ent F))]
theorem k44_tabok (F : Nat) : TabOK Tryz.prog (k44_tab F) := (u001 (k65_meets F) k65_fok (u001 (k100_meets F) k100_fok (u001 (k99_meets F) k99_fok (u001 (k67_meets F) k67_fok (u001 (k124_meets F) k124_fok u015)))))
noncomputable def k44_LS0 (F : Nat) : LT := []
theorem k44_lsok0 (F : Nat) : u011 Tryz.prog (k44_LS0 F) (u000 Tryz.f18) := u005
theorem k44_run (F : Nat) (j2 : List Int) : runS tt (k44_tab F) (k44_LS0 F) [] [] Tryz.f18 (u000 Tryz.f18) 70 [(.ri .u8 j2)] [] = k44_c _ F j2 (fun r => some ⟨(.ints 16 r), [], []⟩) := by kernel_rfl
def k44_ent (F : Nat) : Ent := ⟨[], .quiet, fun args mem => match args, mem with
  | [(.ri .u8 j2)], [] => some ((k44_p F j2).isSome, ⟨(.ints 16 ((k44_p F j2).getD default)), [], []⟩)
  | _, _ => none⟩
theorem k44_fok : FunOK Tryz.prog 18 := funOK Tryz.func18 (by kernel_rfl) rfl
theorem k44_meets (F : Nat) : Meets Tryz.prog 18 (k44_ent F) := by
  refine u002 mixed ttok deep (k44_tabok F) Tryz.func18 (u009 rfl) (k44_lsok0 F) fun args mem hfit ret h => ?_
  clear hfit
  simp only [k44_ent] at h
  split at h
  · rename_i j2
    simp only [Option.some.injEq, Prod.mk.injEq] at h
    obtain ⟨hc, rfl⟩ := h
    exact ⟨[], [], 70, _, (k44_run F j2).trans ((k44_cp _ F j2 _).trans (u014 hc _)), rfl, rfl, rfl⟩
  · cases h
end Go.Proofs.YtabfliifleonaakGreat
