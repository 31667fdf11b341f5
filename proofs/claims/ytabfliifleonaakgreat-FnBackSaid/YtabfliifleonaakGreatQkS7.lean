/-
Pure functions and what the code of them does, by program; without conditions.
-/
import Derived.Test.YtabfliifleonaakGreatQkP7
import Derived.Test.YtabfliifleonaakGreatQkS6
namespace Go.Proofs.YtabfliifleonaakGreat
open Go Go.Lv Go.Lv.P Go.Proofs
set_option linter.unusedVariables false
set_option linter.unusedSimpArgs false
set_option maxRecDepth 100000
noncomputable def k119_tab (F : Nat) : Tab := []
theorem k119_tabok (F : Nat) : TabOK Tryz.prog (k119_tab F) := u015
noncomputable def k119_LS0 (F : Nat) : LT := []
theorem k119_lsok0 (F : Nat) : u011 Tryz.prog (k119_LS0 F) (u000 Tryz.f48) := u005
theorem k119_run (F : Nat) : runS tt (k119_tab F) (k119_LS0 F) [] [] Tryz.f48 (u000 Tryz.f48) 70 [] [] = k119_c _ (fun r => some ⟨(.sl 0 0 16), [(.vec 56 (.rr 2 [[(0 : Int), (0 : Int)], [(0 : Int), (1 : Int)], [(0 : Int), (2 : Int)], [(0 : Int), (3 : Int)], [(1 : Int), (0 : Int)], [(1 : Int), (1 : Int)], [(1 : Int), (2 : Int)], [(1 : Int), (3 : Int)], [(2 : Int), (0 : Int)], [(2 : Int), (1 : Int)], [(2 : Int), (2 : Int)], [(2 : Int), (3 : Int)], [(3 : Int), (0 : Int)], [(3 : Int), (1 : Int)], [(3 : Int), (2 : Int)], [(3 : Int), (3 : Int)]]))], []⟩) := by kernel_rfl
def k119_ent (F : Nat) : Ent := ⟨[], .fresh, fun args mem => match args, mem with
  | [], [] => some (true, ⟨(.sl 0 0 16), [(.vec 56 (.rr 2 [[(0 : Int), (0 : Int)], [(0 : Int), (1 : Int)], [(0 : Int), (2 : Int)], [(0 : Int), (3 : Int)], [(1 : Int), (0 : Int)], [(1 : Int), (1 : Int)], [(1 : Int), (2 : Int)], [(1 : Int), (3 : Int)], [(2 : Int), (0 : Int)], [(2 : Int), (1 : Int)], [(2 : Int), (2 : Int)], [(2 : Int), (3 : Int)], [(3 : Int), (0 : Int)], [(3 : Int), (1 : Int)], [(3 : Int), (2 : Int)], [(3 : Int), (3 : Int)]]))], []⟩)
  | _, _ => none⟩
theorem k119_fok : FunOK Tryz.prog 48 := funOK Tryz.func48 (by kernel_rfl) rfl
theorem k119_meets (F : Nat) : Meets Tryz.prog 48 (k119_ent F) := by
  refine u002 mixed ttok deep (k119_tabok F) Tryz.func48 (u009 rfl) (k119_lsok0 F) fun args mem hfit ret h => ?_
  clear hfit
  simp only [k119_ent] at h
  split at h
  · simp only [Option.some.injEq, Prod.mk.injEq] at h
    obtain ⟨hc, rfl⟩ := h
    exact ⟨[], [], 70, _, (k119_run F).trans (k119_cv _ _), rfl, rfl, rfl⟩
  · cases h
noncomputable def k46_tab (F : Nat) : Tab := [(50, (k78_ent F)), (14, (k108_ent F)), (51, (k132_ent F))]
theorem k46_tabok (F : Nat) : TabOK Tryz.prog (k46_tab F) := (u001 (k78_meets F) k78_fok (u001 (k108_meets F) k108_fok (u001 (k132_meets F) k132_fok u015)))
noncomputable def k46_LS0 (F : Nat) : LT := []
theorem k46_lsok0 (F : Nat) : u011 Tryz.prog (k46_LS0 F) (u000 Tryz.f49) := u005
theorem k46_run (F : Nat) (yi : List Int) (a14 : List Int) : runS tt (k46_tab F) (k46_LS0 F) [] [] Tryz.f49 (u000 Tryz.f49) 70 [(.ints 2 yi), (.ptr 0 0 0 16)] [(.var 16 (.ri .i64 a14))] = k46_c _ F yi a14 (fun r => some ⟨(.bool r), [(.var 16 (.ri .i64 a14))], []⟩) := by kernel_rfl
def k46_ent (F : Nat) : Ent := ⟨[], .quiet, fun args mem => match args, mem with
  | [(.ints 2 yi), (.ptr 0 0 0 16)], [(.var 16 (.ri .i64 a14))] => some ((k46_p F yi a14).isSome, ⟨(.bool ((k46_p F yi a14).getD default)), [], []⟩)
  | _, _ => none⟩
theorem k46_fok : FunOK Tryz.prog 49 := funOK Tryz.func49 (by kernel_rfl) rfl
theorem k46_meets (F : Nat) : Meets Tryz.prog 49 (k46_ent F) := by
  refine u002 mixed ttok deep (k46_tabok F) Tryz.func49 (u009 rfl) (k46_lsok0 F) fun args mem hfit ret h => ?_
  clear hfit
  simp only [k46_ent] at h
  split at h
  · rename_i yi a14
    simp only [Option.some.injEq, Prod.mk.injEq] at h
    obtain ⟨hc, rfl⟩ := h
    exact ⟨[], [], 70, _, (k46_run F yi a14).trans ((k46_cp _ F yi a14 _).trans (u014 hc _)), rfl, rfl, rfl⟩
  · cases h
noncomputable def k13_tab (F : Nat) : Tab := [(49, (k46_ent F))]
theorem k13_tabok (F : Nat) : TabOK Tryz.prog (k13_tab F) := (u001 (k46_meets F) k46_fok u015)
noncomputable def k13_LS0 (F : Nat) : LT := []
theorem k13_lsok0 (F : Nat) : u011 Tryz.prog (k13_LS0 F) (u000 Tryz.f77) := u005
theorem k13_keys : u059 (u000 Tryz.f77) = true := by kernel_rfl
def k13_st2 (s0 : List (List Int)) (t74 : Int) (f6 : List Int) (t85 : Int) : St := ⟨u018 19 0 [0, 1, 7, 8] [(.rr 2 s0), (.fn 49 [] [(.ptr 0 0 0 16)]), (.int .i64 t74), (.int .i64 t85)], [(.var 16 (.ri .i64 f6))], 1, []⟩
def k13_o2 (s0 : List (List Int)) (t74 : Int) (f6 : List Int) (x : Bool × Int) : GT := (.br x.1 (.out (.ret ⟨u018 19 0 [4] [(.int .i64 x.2)], [(.var 16 (.ri .i64 f6))], 1, []⟩)) (.out (.exit 0 ⟨u018 19 0 [] [], [(.var 16 (.ri .i64 f6))], 1, []⟩)))
def k13_ls2 (F : Nat) : LoopS := ⟨19, [0, 1, 7, 8], [], [], [], [4], [], [], fun vals mem np killed => match vals, mem, np, killed with
  | [(.rr 2 s0), (.fn 49 [] [(.ptr 0 0 0 16)]), (.int .i64 t74), (.int .i64 t85)], [(.var 16 (.ri .i64 f6))], 1, [] => .br (k13_l2 F s0 t74 f6 t85).isSome (k13_o2 s0 t74 f6 ((k13_l2 F s0 t74 f6 t85).getD default)) .fail
  | _, _, _, _ => .fail⟩
theorem k13_step2 (F : Nat) (s0 : List (List Int)) (t74 : Int) (f6 : List Int) (t85 : Int) {R : Type} (k : Out → Option R) : stepS tt (k13_tab F) (k13_LS0 F) 70 (k13_ls2 F) (u010 2 (u000 Tryz.f77)) (k13_st2 s0 t74 f6 t85) k = k13_s2 F s0 t74 f6 R t85 (fun s => k (.norm (k13_st2 s0 t74 f6 s))) (fun x => (k13_o2 s0 t74 f6 x).run k) := by kernel_rfl
theorem k13_iter2 (F : Nat) (s0 : List (List Int)) (t74 : Int) (f6 : List Int) {R : Type} (k : Out → Option R) : ∀ (n : Nat) (t85 : Int), iterS tt (k13_tab F) (k13_LS0 F) 70 (k13_ls2 F) (u010 2 (u000 Tryz.f77)) n (k13_st2 s0 t74 f6 t85) k = loopC (k13_s2 F s0 t74 f6) n t85 (fun x => (k13_o2 s0 t74 f6 x).run k)
  | 0, t85 => rfl
  | n + 1, t85 => (u017 tt (k13_tab F) (k13_LS0 F) 70 (k13_ls2 F) (u010 2 (u000 Tryz.f77)) n (k13_st2 s0 t74 f6 t85) k).trans ((k13_step2 F s0 t74 f6 t85 (nextK (iterS tt (k13_tab F) (k13_LS0 F) 70 (k13_ls2 F) (u010 2 (u000 Tryz.f77)) n) k)).trans (congrArg (fun kn => k13_s2 F s0 t74 f6 R t85 kn _) (funext (fun t85 => k13_iter2 F s0 t74 f6 k n t85))))
theorem k13_lok2 (F : Nat) : u041 Tryz.prog (u010 2 (u000 Tryz.f77)) (k13_ls2 F) := by
  refine u019 mixed ttok deep (k13_tabok F) (u016 (k13_lsok0 F) 2) (fuel := 70) fun R vals mem np killed k x h => ?_
  simp only [k13_ls2] at h
  split at h
  · rename_i s0 t74 t85 f6
    simp only [GT.run] at h
    have hc := (u007 h).1
    replace h := (u007 h).2
    refine ⟨F, (k13_iter2 F s0 t74 f6 k F t85).trans ((u020 (k13_s2_nat F s0 t74 f6) hc _).trans h)⟩
  · simp only [GT.run] at h
    cases h
noncomputable def k13_LS1 (F : Nat) : LT := (2, k13_ls2 F) :: k13_LS0 F
theorem k13_lsok1 (F : Nat) : u011 Tryz.prog (k13_LS1 F) (u000 Tryz.f77) := u012 k13_keys (k13_lok2 F) (k13_lsok0 F)
theorem k13_run (F : Nat) (s0 : List (List Int)) (f4 : List Int) : runS tt (k13_tab F) (k13_LS1 F) [] [] Tryz.f77 (u000 Tryz.f77) 70 [(.rr 2 s0), (.fn 49 [] [(.ptr 0 0 0 16)])] [(.var 16 (.ri .i64 f4))] = k13_c _ F s0 f4 (fun r => some ⟨(.int .i64 r), [(.var 16 (.ri .i64 f4))], []⟩) := by kernel_rfl
def k13_ent (F : Nat) : Ent := ⟨[], .quiet, fun args mem => match args, mem with
  | [(.rr 2 s0), (.fn 49 [] [(.ptr 0 0 0 16)])], [(.var 16 (.ri .i64 f4))] => some ((k13_p F s0 f4).isSome, ⟨(.int .i64 ((k13_p F s0 f4).getD default)), [], []⟩)
  | _, _ => none⟩
theorem k13_fok : FunOK Tryz.prog 77 := funOK Tryz.func77 (by kernel_rfl) rfl
theorem k13_meets (F : Nat) : Meets Tryz.prog 77 (k13_ent F) := by
  refine u002 mixed ttok deep (k13_tabok F) Tryz.func77 (u009 rfl) (k13_lsok1 F) fun args mem hfit ret h => ?_
  clear hfit
  simp only [k13_ent] at h
  split at h
  · rename_i s0 f4
    simp only [Option.some.injEq, Prod.mk.injEq] at h
    obtain ⟨hc, rfl⟩ := h
    exact ⟨[], [], 70, _, (k13_run F s0 f4).trans ((k13_cp _ F s0 f4 _).trans (u014 hc _)), rfl, rfl, rfl⟩
  · cases h
noncomputable def k11_tab (F : Nat) : Tab := [(77, (k13_ent F)), (49, (k46_ent F))]
theorem k11_tabok (F : Nat) : TabOK Tryz.prog (k11_tab F) := (u001 (k13_meets F) k13_fok (u001 (k46_meets F) k46_fok u015))
noncomputable def k11_LS0 (F : Nat) : LT := []
theorem k11_lsok0 (F : Nat) : u011 Tryz.prog (k11_LS0 F) (u000 Tryz.f47) := u005
theorem k11_keys : u059 (u000 Tryz.f47) = true := by kernel_rfl
def k11_st5 (s1 : Nat) (jb : List Int) (i5 : Int) (j6 : Int) (s7 : List (List Int)) : St := ⟨u018 42 0 [0, 1, 5, 6] [(.sl 0 0 s1), (.fn 49 [] [(.ptr 1 0 0 16)]), (.int .i64 i5), (.int .i64 j6)], [(.vec 56 (.rr 2 s7)), (.var 16 (.ri .i64 jb))], 2, []⟩
def k11_o5 (s1 : Nat) (jb : List Int) (x : Int × List (List Int)) : GT := (.out (.exit 0 ⟨u018 42 0 [0, 5] [(.sl 0 0 s1), (.int .i64 x.1)], [(.vec 56 (.rr 2 x.2)), (.var 16 (.ri .i64 jb))], 2, []⟩))
def k11_ls5 (F : Nat) : LoopS := ⟨42, [0, 1, 5, 6], [], [0, 5], [], [4], [], [], fun vals mem np killed => match vals, mem, np, killed with
  | [(.sl 0 0 s1), (.fn 49 [] [(.ptr 1 0 0 16)]), (.int .i64 i5), (.int .i64 j6)], [(.vec 56 (.rr 2 s7)), (.var 16 (.ri .i64 jb))], 2, [] => .br (k11_l5 F s1 jb i5 j6 s7).isSome (k11_o5 s1 jb ((k11_l5 F s1 jb i5 j6 s7).getD default)) .fail
  | _, _, _, _ => .fail⟩
theorem k11_step5 (F : Nat) (s1 : Nat) (jb : List Int) (i5 : Int) (j6 : Int) (s7 : List (List Int)) {R : Type} (k : Out → Option R) : stepS tt (k11_tab F) (k11_LS0 F) 70 (k11_ls5 F) (u010 5 (u000 Tryz.f47)) (k11_st5 s1 jb i5 j6 s7) k = k11_s5 F s1 jb R (i5, j6, s7) (fun s => k (.norm (k11_st5 s1 jb s.1 s.2.1 s.2.2))) (fun x => (k11_o5 s1 jb x).run k) := by kernel_rfl
theorem k11_iter5 (F : Nat) (s1 : Nat) (jb : List Int) {R : Type} (k : Out → Option R) : ∀ (n : Nat) (i5 : Int) (j6 : Int) (s7 : List (List Int)), iterS tt (k11_tab F) (k11_LS0 F) 70 (k11_ls5 F) (u010 5 (u000 Tryz.f47)) n (k11_st5 s1 jb i5 j6 s7) k = loopC (k11_s5 F s1 jb) n (i5, j6, s7) (fun x => (k11_o5 s1 jb x).run k)
  | 0, i5, j6, s7 => rfl
  | n + 1, i5, j6, s7 => (u017 tt (k11_tab F) (k11_LS0 F) 70 (k11_ls5 F) (u010 5 (u000 Tryz.f47)) n (k11_st5 s1 jb i5 j6 s7) k).trans ((k11_step5 F s1 jb i5 j6 s7 (nextK (iterS tt (k11_tab F) (k11_LS0 F) 70 (k11_ls5 F) (u010 5 (u000 Tryz.f47)) n) k)).trans (congrArg (fun kn => k11_s5 F s1 jb R (i5, j6, s7) kn _) (funext (fun ⟨i5, j6, s7⟩ => k11_iter5 F s1 jb k n i5 j6 s7))))
theorem k11_lok5 (F : Nat) : u041 Tryz.prog (u010 5 (u000 Tryz.f47)) (k11_ls5 F) := by
  refine u019 mixed ttok deep (k11_tabok F) (u016 (k11_lsok0 F) 5) (fuel := 70) fun R vals mem np killed k x h => ?_
  simp only [k11_ls5] at h
  split at h
  · rename_i s1 i5 j6 s7 jb
    simp only [GT.run] at h
    have hc := (u007 h).1
    replace h := (u007 h).2
    refine ⟨F, (k11_iter5 F s1 jb k F i5 j6 s7).trans ((u020 (k11_s5_nat F s1 jb) hc _).trans h)⟩
  · simp only [GT.run] at h
    cases h
noncomputable def k11_LS1 (F : Nat) : LT := (5, k11_ls5 F) :: k11_LS0 F
theorem k11_lsok1 (F : Nat) : u011 Tryz.prog (k11_LS1 F) (u000 Tryz.f47) := u012 k11_keys (k11_lok5 F) (k11_lsok0 F)
theorem k11_run (F : Nat) (s5 : List (List Int)) (gg : List Int) : runS tt (k11_tab F) (k11_LS1 F) [] [] Tryz.f47 (u000 Tryz.f47) 70 [(.sl 0 0 (List.length s5)), (.fn 49 [] [(.ptr 1 0 0 16)])] [(.vec 56 (.rr 2 s5)), (.var 16 (.ri .i64 gg))] = k11_c _ F s5 gg (fun r => some ⟨(.sl 0 0 r.1), [(.vec 56 (.rr 2 r.2)), (.var 16 (.ri .i64 gg))], []⟩) := by kernel_rfl
def k11_ent (F : Nat) : Ent := ⟨[true], .loud, fun args mem => match args, mem with
  | [(.sl 0 0 q_s1), (.fn 49 [] [(.ptr 1 0 0 16)])], [(.vec 56 (.rr 2 s5)), (.var 16 (.ri .i64 gg))] => some (((Nat.beq q_s1 (List.length s5)) && (k11_p F s5 gg).isSome), ⟨(.sl 0 0 ((k11_p F s5 gg).getD default).1), [(.vec 56 (.rr 2 ((k11_p F s5 gg).getD default).2)), (.var 16 (.ri .i64 gg))], []⟩)
  | _, _ => none⟩
theorem k11_fok : FunOK Tryz.prog 47 := funOK Tryz.func47 (by kernel_rfl) rfl
theorem k11_meets (F : Nat) : Meets Tryz.prog 47 (k11_ent F) := by
  refine u002 mixed ttok deep (k11_tabok F) Tryz.func47 (u009 rfl) (k11_lsok1 F) fun args mem hfit ret h => ?_
  clear hfit
  simp only [k11_ent] at h
  split at h
  · rename_i q_s1 s5 gg
    simp only [Option.some.injEq, Prod.mk.injEq] at h
    obtain ⟨hc, rfl⟩ := h
    have hg := (u013 hc).1
    replace hc := (u013 hc).2
    obtain rfl := u032 hg
    exact ⟨[], [], 70, _, (k11_run F s5 gg).trans ((k11_cp _ F s5 gg _).trans (u014 hc _)), rfl, rfl, rfl⟩
  · cases h
noncomputable def k76_tab (F : Nat) : Tab := [(29, (k96_ent F)), (48, (k119_ent F)), (47, (k11_ent F))]
theorem k76_tabok (F : Nat) : TabOK Tryz.prog (k76_tab F) := (u001 (k96_meets F) k96_fok (u001 (k119_meets F) k119_fok (u001 (k11_meets F) k11_fok u015)))
noncomputable def k76_LS0 (F : Nat) : LT := []
theorem k76_lsok0 (F : Nat) : u011 Tryz.prog (k76_LS0 F) (u000 Tryz.f19) := u005
theorem k76_run (F : Nat) (b0 : List Int) : runS tt (k76_tab F) (k76_LS0 F) [⟨2, 56, (.rr 2 ([] : List (List Int)))⟩] [] Tryz.f19 (u000 Tryz.f19) 70 [(.ints 16 b0)] [] = k76_c _ F b0 (fun r => some ⟨(.tup [(.sl 0 0 r.1), (.bool r.2.1)]), [(.vec 56 (.rr 2 r.2.2))], []⟩) := by kernel_rfl
def k76_ent (F : Nat) : Ent := ⟨[], .fresh, fun args mem => match args, mem with
  | [(.ints 16 b0)], [] => some ((k76_p F b0).isSome, ⟨(.tup [(.sl 0 0 ((k76_p F b0).getD default).1), (.bool ((k76_p F b0).getD default).2.1)]), [(.vec 56 (.rr 2 ((k76_p F b0).getD default).2.2))], []⟩)
  | _, _ => none⟩
theorem k76_fok : FunOK Tryz.prog 19 := funOK Tryz.func19 (by kernel_rfl) rfl
theorem k76_meets (F : Nat) : Meets Tryz.prog 19 (k76_ent F) := by
  refine u002 mixed ttok deep (k76_tabok F) Tryz.func19 (u009 rfl) (k76_lsok0 F) fun args mem hfit ret h => ?_
  clear hfit
  simp only [k76_ent] at h
  split at h
  · rename_i b0
    simp only [Option.some.injEq, Prod.mk.injEq] at h
    obtain ⟨hc, rfl⟩ := h
    exact ⟨[⟨2, 56, (.rr 2 ([] : List (List Int)))⟩], [], 70, _, (k76_run F b0).trans ((k76_cp _ F b0 _).trans (u014 hc _)), rfl, rfl, rfl⟩
  · cases h
noncomputable def k89_tab (F : Nat) : Tab := [(37, (k99_ent F)), (53, (k131_ent F)), (52, (k130_ent F)), (45, (k124_ent F)), (42, (k106_ent F))]
theorem k89_tabok (F : Nat) : TabOK Tryz.prog (k89_tab F) := (u001 (k99_meets F) k99_fok (u001 (k131_meets F) k131_fok (u001 (k130_meets F) k130_fok (u001 (k124_meets F) k124_fok (u001 (k106_meets F) k106_fok u015)))))
noncomputable def k89_LS0 (F : Nat) : LT := []
theorem k89_lsok0 (F : Nat) : u011 Tryz.prog (k89_LS0 F) (u000 Tryz.f20) := u005
theorem k89_keys : u059 (u000 Tryz.f20) = true := by kernel_rfl
def k89_st8 (r5 : Int) (b7 : List Int) (c6 : Int) (j7 : List (List Int)) : St := ⟨u018 41 0 [1, 4, 5, 6] [(.ptr 0 0 0 16), (.sl 1 0 (List.length j7)), (.int .i64 r5), (.int .i64 c6)], [(.var 16 (.ri .i64 b7)), (.vec 56 (.rr 2 j7))], 0, []⟩
def k89_o8 (r5 : Int) (b7 : List Int) (x : List (List Int)) : GT := (.out (.exit 2 ⟨u018 41 0 [1, 4, 5] [(.ptr 0 0 0 16), (.sl 1 0 (List.length x)), (.int .i64 r5)], [(.var 16 (.ri .i64 b7)), (.vec 56 (.rr 2 x))], 0, []⟩))
def k89_ls8 (F : Nat) : LoopS := ⟨41, [1, 4, 5, 6], [], [1, 4, 5], [], [2, 3], [], [], fun vals mem np killed => match vals, mem, np, killed with
  | [(.ptr 0 0 0 16), (.sl 1 0 q_out4), (.int .i64 r5), (.int .i64 c6)], [(.var 16 (.ri .i64 b7)), (.vec 56 (.rr 2 j7))], 0, [] => .br ((Nat.beq q_out4 (List.length j7)) && (k89_l8 F r5 b7 c6 j7).isSome) (k89_o8 r5 b7 ((k89_l8 F r5 b7 c6 j7).getD default)) .fail
  | _, _, _, _ => .fail⟩
theorem k89_step8 (F : Nat) (r5 : Int) (b7 : List Int) (c6 : Int) (j7 : List (List Int)) {R : Type} (k : Out → Option R) : stepS tt (k89_tab F) (k89_LS0 F) 70 (k89_ls8 F) (u010 8 (u000 Tryz.f20)) (k89_st8 r5 b7 c6 j7) k = k89_s8 F r5 b7 R (c6, j7) (fun s => k (.norm (k89_st8 r5 b7 s.1 s.2))) (fun x => (k89_o8 r5 b7 x).run k) := by kernel_rfl
theorem k89_iter8 (F : Nat) (r5 : Int) (b7 : List Int) {R : Type} (k : Out → Option R) : ∀ (n : Nat) (c6 : Int) (j7 : List (List Int)), iterS tt (k89_tab F) (k89_LS0 F) 70 (k89_ls8 F) (u010 8 (u000 Tryz.f20)) n (k89_st8 r5 b7 c6 j7) k = loopC (k89_s8 F r5 b7) n (c6, j7) (fun x => (k89_o8 r5 b7 x).run k)
  | 0, c6, j7 => rfl
  | n + 1, c6, j7 => (u017 tt (k89_tab F) (k89_LS0 F) 70 (k89_ls8 F) (u010 8 (u000 Tryz.f20)) n (k89_st8 r5 b7 c6 j7) k).trans ((k89_step8 F r5 b7 c6 j7 (nextK (iterS tt (k89_tab F) (k89_LS0 F) 70 (k89_ls8 F) (u010 8 (u000 Tryz.f20)) n) k)).trans (congrArg (fun kn => k89_s8 F r5 b7 R (c6, j7) kn _) (funext (fun ⟨c6, j7⟩ => k89_iter8 F r5 b7 k n c6 j7))))
theorem k89_lok8 (F : Nat) : u041 Tryz.prog (u010 8 (u000 Tryz.f20)) (k89_ls8 F) := by
  refine u019 mixed ttok deep (k89_tabok F) (u016 (k89_lsok0 F) 8) (fuel := 70) fun R vals mem np killed k x h => ?_
  simp only [k89_ls8] at h
  split at h
  · rename_i q_out4 r5 c6 b7 j7
    simp only [GT.run] at h
    have hc := (u007 h).1
    replace h := (u007 h).2
    have hg := (u013 hc).1
    replace hc := (u013 hc).2
    obtain rfl := u032 hg
    refine ⟨F, (k89_iter8 F r5 b7 k F c6 j7).trans ((u020 (k89_s8_nat F r5 b7) hc _).trans h)⟩
  · simp only [GT.run] at h
    cases h
noncomputable def k89_LS1 (F : Nat) : LT := (8, k89_ls8 F) :: k89_LS0 F
theorem k89_lsok1 (F : Nat) : u011 Tryz.prog (k89_LS1 F) (u000 Tryz.f20) := u012 k89_keys (k89_lok8 F) (k89_lsok0 F)
def k89_st5 (b6 : List Int) (r5 : Int) (w5 : List (List Int)) : St := ⟨u018 41 0 [1, 4, 5] [(.ptr 0 0 0 16), (.sl 1 0 (List.length w5)), (.int .i64 r5)], [(.var 16 (.ri .i64 b6)), (.vec 56 (.rr 2 w5))], 0, []⟩
def k89_o5 (b6 : List Int) (x : List (List Int)) : GT := (.out (.exit 0 ⟨u018 41 0 [4] [(.sl 0 0 (List.length x))], [(.vec 56 (.rr 2 x))], 0, []⟩))
def k89_ls5 (F : Nat) : LoopS := ⟨41, [1, 4, 5], [], [4], [], [2, 3], [], [], fun vals mem np killed => match vals, mem, np, killed with
  | [(.ptr 0 0 0 16), (.sl 1 0 q_out4), (.int .i64 r5)], [(.var 16 (.ri .i64 b6)), (.vec 56 (.rr 2 w5))], 0, [] => .br ((Nat.beq q_out4 (List.length w5)) && (k89_l5 F b6 r5 w5).isSome) (k89_o5 b6 ((k89_l5 F b6 r5 w5).getD default)) .fail
  | _, _, _, _ => .fail⟩
theorem k89_step5 (F : Nat) (b6 : List Int) (r5 : Int) (w5 : List (List Int)) {R : Type} (k : Out → Option R) : stepS tt (k89_tab F) (k89_LS1 F) 70 (k89_ls5 F) (u010 5 (u000 Tryz.f20)) (k89_st5 b6 r5 w5) k = k89_s5 F b6 R (r5, w5) (fun s => k (.norm (k89_st5 b6 s.1 s.2))) (fun x => (k89_o5 b6 x).run k) := by kernel_rfl
theorem k89_iter5 (F : Nat) (b6 : List Int) {R : Type} (k : Out → Option R) : ∀ (n : Nat) (r5 : Int) (w5 : List (List Int)), iterS tt (k89_tab F) (k89_LS1 F) 70 (k89_ls5 F) (u010 5 (u000 Tryz.f20)) n (k89_st5 b6 r5 w5) k = loopC (k89_s5 F b6) n (r5, w5) (fun x => (k89_o5 b6 x).run k)
  | 0, r5, w5 => rfl
  | n + 1, r5, w5 => (u017 tt (k89_tab F) (k89_LS1 F) 70 (k89_ls5 F) (u010 5 (u000 Tryz.f20)) n (k89_st5 b6 r5 w5) k).trans ((k89_step5 F b6 r5 w5 (nextK (iterS tt (k89_tab F) (k89_LS1 F) 70 (k89_ls5 F) (u010 5 (u000 Tryz.f20)) n) k)).trans (congrArg (fun kn => k89_s5 F b6 R (r5, w5) kn _) (funext (fun ⟨r5, w5⟩ => k89_iter5 F b6 k n r5 w5))))
theorem k89_lok5 (F : Nat) : u041 Tryz.prog (u010 5 (u000 Tryz.f20)) (k89_ls5 F) := by
  refine u019 mixed ttok deep (k89_tabok F) (u016 (k89_lsok1 F) 5) (fuel := 70) fun R vals mem np killed k x h => ?_
  simp only [k89_ls5] at h
  split at h
  · rename_i q_out4 r5 b6 w5
    simp only [GT.run] at h
    have hc := (u007 h).1
    replace h := (u007 h).2
    have hg := (u013 hc).1
    replace hc := (u013 hc).2
    obtain rfl := u032 hg
    refine ⟨F, (k89_iter5 F b6 k F r5 w5).trans ((u020 (k89_s5_nat F b6) hc _).trans h)⟩
  · simp only [GT.run] at h
    cases h
noncomputable def k89_LS2 (F : Nat) : LT := (5, k89_ls5 F) :: k89_LS1 F
theorem k89_lsok2 (F : Nat) : u011 Tryz.prog (k89_LS2 F) (u000 Tryz.f20) := u012 k89_keys (k89_lok5 F) (k89_lsok1 F)
theorem k89_run (F : Nat) (b0 : List Int) : runS tt (k89_tab F) (k89_LS2 F) [] [] Tryz.f20 (u000 Tryz.f20) 70 [(.ints 16 b0)] [] = k89_c _ F b0 (fun r => some ⟨(.tup [(.sl 0 0 (List.length r.2)), (.bool r.1)]), [(.vec 56 (.rr 2 r.2))], []⟩) := by kernel_rfl
def k89_ent (F : Nat) : Ent := ⟨[], .fresh, fun args mem => match args, mem with
  | [(.ints 16 b0)], [] => some ((k89_p F b0).isSome, ⟨(.tup [(.sl 0 0 (List.length ((k89_p F b0).getD default).2)), (.bool ((k89_p F b0).getD default).1)]), [(.vec 56 (.rr 2 ((k89_p F b0).getD default).2))], []⟩)
  | _, _ => none⟩
theorem k89_fok : FunOK Tryz.prog 20 := funOK Tryz.func20 (by kernel_rfl) rfl
theorem k89_meets (F : Nat) : Meets Tryz.prog 20 (k89_ent F) := by
  refine u002 mixed ttok deep (k89_tabok F) Tryz.func20 (u009 rfl) (k89_lsok2 F) fun args mem hfit ret h => ?_
  clear hfit
  simp only [k89_ent] at h
  split at h
  · rename_i b0
    simp only [Option.some.injEq, Prod.mk.injEq] at h
    obtain ⟨hc, rfl⟩ := h
    exact ⟨[], [], 70, _, (k89_run F b0).trans ((k89_cp _ F b0 _).trans (u014 hc _)), rfl, rfl, rfl⟩
  · cases h
noncomputable def k111_tab (F : Nat) : Tab := []
theorem k111_tabok (F : Nat) : TabOK Tryz.prog (k111_tab F) := u015
noncomputable def k111_LS0 (F : Nat) : LT := []
theorem k111_lsok0 (F : Nat) : u011 Tryz.prog (k111_LS0 F) (u000 Tryz.f21) := u005
theorem k111_keys : u059 (u000 Tryz.f21) = true := by kernel_rfl
def k111_st4 (a0 : List (List Int)) (b1 : List (List Int)) (i2 : Int) : St := ⟨u018 26 0 [0, 1, 5] [(.rr 2 a0), (.rr 2 b1), (.int .i64 i2)], [], 0, []⟩
def k111_o4 (a0 : List (List Int)) (b1 : List (List Int)) (x : Bool) : GT := (.br x (.out (.ret ⟨u018 26 0 [4] [(.bool false)], [], 0, []⟩)) (.out (.exit 0 ⟨u018 26 0 [] [], [], 0, []⟩)))
def k111_ls4 (F : Nat) : LoopS := ⟨26, [0, 1, 5], [], [], [], [4], [], [], fun vals mem np killed => match vals, mem, np, killed with
  | [(.rr 2 a0), (.rr 2 b1), (.int .i64 i2)], [], 0, [] => .br (k111_l4 F a0 b1 i2).isSome (k111_o4 a0 b1 ((k111_l4 F a0 b1 i2).getD default)) .fail
  | _, _, _, _ => .fail⟩
theorem k111_step4 (F : Nat) (a0 : List (List Int)) (b1 : List (List Int)) (i2 : Int) {R : Type} (k : Out → Option R) : stepS tt (k111_tab F) (k111_LS0 F) 70 (k111_ls4 F) (u010 4 (u000 Tryz.f21)) (k111_st4 a0 b1 i2) k = k111_s4 F a0 b1 R i2 (fun s => k (.norm (k111_st4 a0 b1 s))) (fun x => (k111_o4 a0 b1 x).run k) := by kernel_rfl
theorem k111_iter4 (F : Nat) (a0 : List (List Int)) (b1 : List (List Int)) {R : Type} (k : Out → Option R) : ∀ (n : Nat) (i2 : Int), iterS tt (k111_tab F) (k111_LS0 F) 70 (k111_ls4 F) (u010 4 (u000 Tryz.f21)) n (k111_st4 a0 b1 i2) k = loopC (k111_s4 F a0 b1) n i2 (fun x => (k111_o4 a0 b1 x).run k)
  | 0, i2 => rfl
  | n + 1, i2 => (u017 tt (k111_tab F) (k111_LS0 F) 70 (k111_ls4 F) (u010 4 (u000 Tryz.f21)) n (k111_st4 a0 b1 i2) k).trans ((k111_step4 F a0 b1 i2 (nextK (iterS tt (k111_tab F) (k111_LS0 F) 70 (k111_ls4 F) (u010 4 (u000 Tryz.f21)) n) k)).trans (congrArg (fun kn => k111_s4 F a0 b1 R i2 kn _) (funext (fun i2 => k111_iter4 F a0 b1 k n i2))))
theorem k111_lok4 (F : Nat) : u041 Tryz.prog (u010 4 (u000 Tryz.f21)) (k111_ls4 F) := by
  refine u019 mixed ttok deep (k111_tabok F) (u016 (k111_lsok0 F) 4) (fuel := 70) fun R vals mem np killed k x h => ?_
  simp only [k111_ls4] at h
  split at h
  · rename_i a0 b1 i2
    simp only [GT.run] at h
    have hc := (u007 h).1
    replace h := (u007 h).2
    refine ⟨F, (k111_iter4 F a0 b1 k F i2).trans ((u020 (k111_s4_nat F a0 b1) hc _).trans h)⟩
  · simp only [GT.run] at h
    cases h
noncomputable def k111_LS1 (F : Nat) : LT := (4, k111_ls4 F) :: k111_LS0 F
theorem k111_lsok1 (F : Nat) : u011 Tryz.prog (k111_LS1 F) (u000 Tryz.f21) := u012 k111_keys (k111_lok4 F) (k111_lsok0 F)
theorem k111_run (F : Nat) (a0 : List (List Int)) (b1 : List (List Int)) : runS tt (k111_tab F) (k111_LS1 F) [] [] Tryz.f21 (u000 Tryz.f21) 70 [(.rr 2 a0), (.rr 2 b1)] [] = k111_c _ F a0 b1 (fun r => some ⟨(.bool r), [], []⟩) := by kernel_rfl
def k111_ent (F : Nat) : Ent := ⟨[], .quiet, fun args mem => match args, mem with
  | [(.rr 2 a0), (.rr 2 b1)], [] => some ((k111_p F a0 b1).isSome, ⟨(.bool ((k111_p F a0 b1).getD default)), [], []⟩)
  | _, _ => none⟩
theorem k111_fok : FunOK Tryz.prog 21 := funOK Tryz.func21 (by kernel_rfl) rfl
theorem k111_meets (F : Nat) : Meets Tryz.prog 21 (k111_ent F) := by
  refine u002 mixed ttok deep (k111_tabok F) Tryz.func21 (u009 rfl) (k111_lsok1 F) fun args mem hfit ret h => ?_
  clear hfit
  simp only [k111_ent] at h
  split at h
  · rename_i a0 b1
    simp only [Option.some.injEq, Prod.mk.injEq] at h
    obtain ⟨hc, rfl⟩ := h
    exact ⟨[], [], 70, _, (k111_run F a0 b1).trans ((k111_cp _ F a0 b1 _).trans (u014 hc _)), rfl, rfl, rfl⟩
  · cases h
noncomputable def k45_tab (F : Nat) : Tab := [(54, (k52_ent F)), (43, (k65_ent F))]
theorem k45_tabok (F : Nat) : TabOK Tryz.prog (k45_tab F) := (u001 (k52_meets F) k52_fok (u001 (k65_meets F) k65_fok u015))
noncomputable def k45_LS0 (F : Nat) : LT := []
theorem k45_lsok0 (F : Nat) : u011 Tryz.prog (k45_LS0 F) (u000 Tryz.f22) := u005
theorem k45_run (F : Nat) (j2 : List Int) : runS tt (k45_tab F) (k45_LS0 F) [] [] Tryz.f22 (u000 Tryz.f22) 70 [(.ri .u8 j2)] [] = k45_c _ F j2 (fun r => some ⟨(.tup [(.ints 16 r.1), (.int .i64 r.2.1), (.int .i64 r.2.2)]), [], []⟩) := by kernel_rfl
def k45_ent (F : Nat) : Ent := ⟨[], .quiet, fun args mem => match args, mem with
  | [(.ri .u8 j2)], [] => some ((k45_p F j2).isSome, ⟨(.tup [(.ints 16 ((k45_p F j2).getD default).1), (.int .i64 ((k45_p F j2).getD default).2.1), (.int .i64 ((k45_p F j2).getD default).2.2)]), [], []⟩)
  | _, _ => none⟩
theorem k45_fok : FunOK Tryz.prog 22 := funOK Tryz.func22 (by kernel_rfl) rfl
theorem k45_meets (F : Nat) : Meets Tryz.prog 22 (k45_ent F) := by
  refine u002 mixed ttok deep (k45_tabok F) Tryz.func22 (u009 rfl) (k45_lsok0 F) fun args mem hfit ret h => ?_
  clear hfit
  simp only [k45_ent] at h
  split at h
  · rename_i j2
    simp only [Option.some.injEq, Prod.mk.injEq] at h
    obtain ⟨hc, rfl⟩ := h
    exact ⟨[], [], 70, _, (k45_run F j2).trans ((k45_cp _ F j2 _).trans (u014 hc _)), rfl, rfl, rfl⟩
  · cases h
noncomputable def k77_tab (F : Nat) : Tab := [(6, (k34_ent F)), (51, (k132_ent F))]
theorem k77_tabok (F : Nat) : TabOK Tryz.prog (k77_tab F) := (u001 (k34_meets F) k34_fok (u001 (k132_meets F) k132_fok u015))
noncomputable def k77_LS0 (F : Nat) : LT := []
theorem k77_lsok0 (F : Nat) : u011 Tryz.prog (k77_LS0 F) (u000 Tryz.f23) := u005
theorem k77_run (F : Nat) (b0 : List Int) (j1 : Int) (k2 : Int) : runS tt (k77_tab F) (k77_LS0 F) [] [] Tryz.f23 (u000 Tryz.f23) 70 [(.ints 16 b0), (.int .i64 j1), (.int .i64 k2)] [] = k77_c _ F b0 j1 k2 (fun r => some ⟨(.tup [(.ints 16 r.1), (.bool r.2)]), [], []⟩) := by kernel_rfl
def k77_ent (F : Nat) : Ent := ⟨[], .quiet, fun args mem => match args, mem with
  | [(.ints 16 b0), (.int .i64 j1), (.int .i64 k2)], [] => some ((k77_p F b0 j1 k2).isSome, ⟨(.tup [(.ints 16 ((k77_p F b0 j1 k2).getD default).1), (.bool ((k77_p F b0 j1 k2).getD default).2)]), [], []⟩)
  | _, _ => none⟩
theorem k77_fok : FunOK Tryz.prog 23 := funOK Tryz.func23 (by kernel_rfl) rfl
theorem k77_meets (F : Nat) : Meets Tryz.prog 23 (k77_ent F) := by
  refine u002 mixed ttok deep (k77_tabok F) Tryz.func23 (u009 rfl) (k77_lsok0 F) fun args mem hfit ret h => ?_
  clear hfit
  simp only [k77_ent] at h
  split at h
  · rename_i b0 j1 k2
    simp only [Option.some.injEq, Prod.mk.injEq] at h
    obtain ⟨hc, rfl⟩ := h
    exact ⟨[], [], 70, _, (k77_run F b0 j1 k2).trans ((k77_cp _ F b0 j1 k2 _).trans (u014 hc _)), rfl, rfl, rfl⟩
  · cases h
noncomputable def k90_tab (F : Nat) : Tab := [(7, (k43_ent F)), (52, (k130_ent F))]
theorem k90_tabok (F : Nat) : TabOK Tryz.prog (k90_tab F) := (u001 (k43_meets F) k43_fok (u001 (k130_meets F) k130_fok u015))
noncomputable def k90_LS0 (F : Nat) : LT := []
theorem k90_lsok0 (F : Nat) : u011 Tryz.prog (k90_LS0 F) (u000 Tryz.f24) := u005
theorem k90_run (F : Nat) (b0 : List Int) (j1 : Int) (k2 : Int) : runS tt (k90_tab F) (k90_LS0 F) [] [] Tryz.f24 (u000 Tryz.f24) 70 [(.ints 16 b0), (.int .i64 j1), (.int .i64 k2)] [] = k90_c _ F b0 j1 k2 (fun r => some ⟨(.tup [(.ints 16 r.1), (.bool r.2)]), [], []⟩) := by kernel_rfl
def k90_ent (F : Nat) : Ent := ⟨[], .quiet, fun args mem => match args, mem with
  | [(.ints 16 b0), (.int .i64 j1), (.int .i64 k2)], [] => some ((k90_p F b0 j1 k2).isSome, ⟨(.tup [(.ints 16 ((k90_p F b0 j1 k2).getD default).1), (.bool ((k90_p F b0 j1 k2).getD default).2)]), [], []⟩)
  | _, _ => none⟩
theorem k90_fok : FunOK Tryz.prog 24 := funOK Tryz.func24 (by kernel_rfl) rfl
theorem k90_meets (F : Nat) : Meets Tryz.prog 24 (k90_ent F) := by
  refine u002 mixed ttok deep (k90_tabok F) Tryz.func24 (u009 rfl) (k90_lsok0 F) fun args mem hfit ret h => ?_
  clear hfit
  simp only [k90_ent] at h
  split at h
  · rename_i b0 j1 k2
    simp only [Option.some.injEq, Prod.mk.injEq] at h
    obtain ⟨hc, rfl⟩ := h
    exact ⟨[], [], 70, _, (k90_run F b0 j1 k2).trans ((k90_cp _ F b0 j1 k2 _).trans (u014 hc _)), rfl, rfl, rfl⟩
  · cases h
noncomputable def k58_tab (F : Nat) : Tab := [(29, (k96_ent F)), (30, (k50_ent F)), (55, (k48_ent F))]
theorem k58_tabok (F : Nat) : TabOK Tryz.prog (k58_tab F) := (u001 (k96_meets F) k96_fok (u001 (k50_meets F) k50_fok (u001 (k48_meets F) k48_fok u015)))
noncomputable def k58_LS0 (F : Nat) : LT := []
theorem k58_lsok0 (F : Nat) : u011 Tryz.prog (k58_LS0 F) (u000 Tryz.f25) := u005
theorem k58_run (F : Nat) (b0 : List Int) (j1 : Int) : runS tt (k58_tab F) (k58_LS0 F) [] [] Tryz.f25 (u000 Tryz.f25) 70 [(.ints 16 b0), (.int .i64 j1)] [] = k58_c _ F b0 j1 (fun r => some ⟨(.tup [(.ints 16 r.1), (.int .i64 r.2.1), (.bool r.2.2)]), [], []⟩) := by kernel_rfl
def k58_ent (F : Nat) : Ent := ⟨[], .quiet, fun args mem => match args, mem with
  | [(.ints 16 b0), (.int .i64 j1)], [] => some ((k58_p F b0 j1).isSome, ⟨(.tup [(.ints 16 ((k58_p F b0 j1).getD default).1), (.int .i64 ((k58_p F b0 j1).getD default).2.1), (.bool ((k58_p F b0 j1).getD default).2.2)]), [], []⟩)
  | _, _ => none⟩
theorem k58_fok : FunOK Tryz.prog 25 := funOK Tryz.func25 (by kernel_rfl) rfl
theorem k58_meets (F : Nat) : Meets Tryz.prog 25 (k58_ent F) := by
  refine u002 mixed ttok deep (k58_tabok F) Tryz.func25 (u009 rfl) (k58_lsok0 F) fun args mem hfit ret h => ?_
  clear hfit
  simp only [k58_ent] at h
  split at h
  · rename_i b0 j1
    simp only [Option.some.injEq, Prod.mk.injEq] at h
    obtain ⟨hc, rfl⟩ := h
    exact ⟨[], [], 70, _, (k58_run F b0 j1).trans ((k58_cp _ F b0 j1 _).trans (u014 hc _)), rfl, rfl, rfl⟩
  · cases h
noncomputable def k109_tab (F : Nat) : Tab := [(51, (k132_ent F))]
theorem k109_tabok (F : Nat) : TabOK Tryz.prog (k109_tab F) := (u001 (k132_meets F) k132_fok u015)
noncomputable def k109_LS0 (F : Nat) : LT := []
theorem k109_lsok0 (F : Nat) : u011 Tryz.prog (k109_LS0 F) (u000 Tryz.f56) := u005
theorem k109_run (F : Nat) (yi : List Int) : runS tt (k109_tab F) (k109_LS0 F) [] [] Tryz.f56 (u000 Tryz.f56) 70 [(.ints 2 yi)] [] = k109_c _ yi (fun r => some ⟨(.bool r), [], []⟩) := by kernel_rfl
def k109_ent (F : Nat) : Ent := ⟨[], .quiet, fun args mem => match args, mem with
  | [(.ints 2 yi)], [] => some (true, ⟨(.bool (k109_v yi)), [], []⟩)
  | _, _ => none⟩
theorem k109_fok : FunOK Tryz.prog 56 := funOK Tryz.func56 (by kernel_rfl) rfl
theorem k109_meets (F : Nat) : Meets Tryz.prog 56 (k109_ent F) := by
  refine u002 mixed ttok deep (k109_tabok F) Tryz.func56 (u009 rfl) (k109_lsok0 F) fun args mem hfit ret h => ?_
  clear hfit
  simp only [k109_ent] at h
  split at h
  · rename_i yi
    simp only [Option.some.injEq, Prod.mk.injEq] at h
    obtain ⟨hc, rfl⟩ := h
    exact ⟨[], [], 70, _, (k109_run F yi).trans (k109_cv _ yi _), rfl, rfl, rfl⟩
  · cases h
noncomputable def k80_tab (F : Nat) : Tab := [(29, (k96_ent F)), (56, (k109_ent F)), (50, (k78_ent F))]
theorem k80_tabok (F : Nat) : TabOK Tryz.prog (k80_tab F) := (u001 (k96_meets F) k96_fok (u001 (k109_meets F) k109_fok (u001 (k78_meets F) k78_fok u015)))
noncomputable def k80_LS0 (F : Nat) : LT := []
theorem k80_lsok0 (F : Nat) : u011 Tryz.prog (k80_LS0 F) (u000 Tryz.f26) := u005
theorem k80_run (F : Nat) (b0 : List Int) (wf : List Int) : runS tt (k80_tab F) (k80_LS0 F) [] [] Tryz.f26 (u000 Tryz.f26) 70 [(.ints 16 b0), (.ints 2 wf)] [] = k80_c _ F b0 wf (fun r => some ⟨(.tup [(.ints 16 r.1), (.int .i64 r.2.1), (.bool r.2.2)]), [], []⟩) := by kernel_rfl
def k80_ent (F : Nat) : Ent := ⟨[], .quiet, fun args mem => match args, mem with
  | [(.ints 16 b0), (.ints 2 wf)], [] => some ((k80_p F b0 wf).isSome, ⟨(.tup [(.ints 16 ((k80_p F b0 wf).getD default).1), (.int .i64 ((k80_p F b0 wf).getD default).2.1), (.bool ((k80_p F b0 wf).getD default).2.2)]), [], []⟩)
  | _, _ => none⟩
theorem k80_fok : FunOK Tryz.prog 26 := funOK Tryz.func26 (by kernel_rfl) rfl
theorem k80_meets (F : Nat) : Meets Tryz.prog 26 (k80_ent F) := by
  refine u002 mixed ttok deep (k80_tabok F) Tryz.func26 (u009 rfl) (k80_lsok0 F) fun args mem hfit ret h => ?_
  clear hfit
  simp only [k80_ent] at h
  split at h
  · rename_i b0 wf
    simp only [Option.some.injEq, Prod.mk.injEq] at h
    obtain ⟨hc, rfl⟩ := h
    exact ⟨[], [], 70, _, (k80_run F b0 wf).trans ((k80_cp _ F b0 wf _).trans (u014 hc _)), rfl, rfl, rfl⟩
  · cases h
noncomputable def k70_tab (F : Nat) : Tab := [(29, (k96_ent F)), (57, (k47_ent F))]
theorem k70_tabok (F : Nat) : TabOK Tryz.prog (k70_tab F) := (u001 (k96_meets F) k96_fok (u001 (k47_meets F) k47_fok u015))
noncomputable def k70_LS0 (F : Nat) : LT := []
theorem k70_lsok0 (F : Nat) : u011 Tryz.prog (k70_LS0 F) (u000 Tryz.f27) := u005
theorem k70_run (F : Nat) (a0 : List Int) (b1 : List Int) : runS tt (k70_tab F) (k70_LS0 F) [] [] Tryz.f27 (u000 Tryz.f27) 70 [(.ints 16 a0), (.ints 16 b1)] [] = k70_c _ F a0 b1 (fun r => some ⟨(.tup [(.bool r.1), (.bool r.2)]), [], []⟩) := by kernel_rfl
def k70_ent (F : Nat) : Ent := ⟨[], .quiet, fun args mem => match args, mem with
  | [(.ints 16 a0), (.ints 16 b1)], [] => some ((k70_p F a0 b1).isSome, ⟨(.tup [(.bool ((k70_p F a0 b1).getD default).1), (.bool ((k70_p F a0 b1).getD default).2)]), [], []⟩)
  | _, _ => none⟩
theorem k70_fok : FunOK Tryz.prog 27 := funOK Tryz.func27 (by kernel_rfl) rfl
theorem k70_meets (F : Nat) : Meets Tryz.prog 27 (k70_ent F) := by
  refine u002 mixed ttok deep (k70_tabok F) Tryz.func27 (u009 rfl) (k70_lsok0 F) fun args mem hfit ret h => ?_
  clear hfit
  simp only [k70_ent] at h
  split at h
  · rename_i a0 b1
    simp only [Option.some.injEq, Prod.mk.injEq] at h
    obtain ⟨hc, rfl⟩ := h
    exact ⟨[], [], 70, _, (k70_run F a0 b1).trans ((k70_cp _ F a0 b1 _).trans (u014 hc _)), rfl, rfl, rfl⟩
  · cases h
noncomputable def k110_tab (F : Nat) : Tab := [(4, (k128_ent F)), (5, (k24_ent F)), (6, (k34_ent F)), (7, (k43_ent F)), (8, (k49_ent F)), (9, (k51_ent F)), (10, (k71_ent F)), (11, (k72_ent F)), (12, (k122_ent F)), (13, (k129_ent F)), (14, (k108_ent F)), (15, (k112_ent F)), (16, (k81_ent F)), (17, (k91_ent F)), (18, (k44_ent F)), (19, (k76_ent F)), (20, (k89_ent F)), (21, (k111_ent F)), (22, (k45_ent F)), (23, (k77_ent F)), (24, (k90_ent F)), (25, (k58_ent F)), (26, (k80_ent F)), (27, (k70_ent F))]
theorem k110_tabok (F : Nat) : TabOK Tryz.prog (k110_tab F) := (u001 (k128_meets F) k128_fok (u001 (k24_meets F) k24_fok (u001 (k34_meets F) k34_fok (u001 (k43_meets F) k43_fok (u001 (k49_meets F) k49_fok (u001 (k51_meets F) k51_fok (u001 (k71_meets F) k71_fok (u001 (k72_meets F) k72_fok (u001 (k122_meets F) k122_fok (u001 (k129_meets F) k129_fok (u001 (k108_meets F) k108_fok (u001 (k112_meets F) k112_fok (u001 (k81_meets F) k81_fok (u001 (k91_meets F) k91_fok (u001 (k44_meets F) k44_fok (u001 (k76_meets F) k76_fok (u001 (k89_meets F) k89_fok (u001 (k111_meets F) k111_fok (u001 (k45_meets F) k45_fok (u001 (k77_meets F) k77_fok (u001 (k90_meets F) k90_fok (u001 (k58_meets F) k58_fok (u001 (k80_meets F) k80_fok (u001 (k70_meets F) k70_fok u015))))))))))))))))))))))))
noncomputable def k110_LS0 (F : Nat) : LT := []
theorem k110_lsok0 (F : Nat) : u011 Tryz.prog (k110_LS0 F) (u000 Tryz.f3) := u005
theorem k110_keys : u059 (u000 Tryz.f3) = true := by kernel_rfl
def k110_st39 (d3 : Int) (j5 : Nat) (jo : Nat) (b14 : List Int) (jv : List (List Int)) (yj : List (List Int)) (c17 : List Int) (gv : List (List Int)) (i13 : Int) : St := ⟨u018 379 0 [3, 4, 5, 7, 25, 26, 40] [(.ptr 0 0 0 16), (.int .i64 d3), (.sl 1 0 j5), (.sl 2 0 (List.length yj)), (.ptr 3 0 0 16), (.sl 4 0 jo), (.int .i64 i13)], [(.var 16 (.ri .i64 b14)), (.vec 27 (.rr 16 jv)), (.vec 27 (.rr 16 yj)), (.var 16 (.ri .i64 c17)), (.vec 56 (.rr 2 gv))], 0, []⟩
def k110_o39 (d3 : Int) (j5 : Nat) (jo : Nat) (b14 : List Int) (jv : List (List Int)) (yj : List (List Int)) (c17 : List Int) (gv : List (List Int)) (x : Bool) : GT := (.br x (.out (.ret ⟨u018 379 0 [2] [(.bool false)], [], 0, []⟩)) (.out (.exit 0 ⟨u018 379 0 [3, 4, 5, 7] [(.ptr 0 0 0 16), (.int .i64 d3), (.sl 1 0 j5), (.sl 2 0 (List.length yj))], [(.var 16 (.ri .i64 b14)), (.vec 27 (.rr 16 jv)), (.vec 27 (.rr 16 yj))], 0, []⟩)))
def k110_ls39 (F : Nat) : LoopS := ⟨379, [3, 4, 5, 7, 25, 26, 40], [], [3, 4, 5, 7], [], [2], [], [], fun vals mem np killed => match vals, mem, np, killed with
  | [(.ptr 0 0 0 16), (.int .i64 d3), (.sl 1 0 j5), (.sl 2 0 q_want7), (.ptr 3 0 0 16), (.sl 4 0 jo), (.int .i64 i13)], [(.var 16 (.ri .i64 b14)), (.vec 27 (.rr 16 jv)), (.vec 27 (.rr 16 yj)), (.var 16 (.ri .i64 c17)), (.vec 56 (.rr 2 gv))], 0, [] => .br ((Nat.beq q_want7 (List.length yj)) && (k110_l39 F d3 j5 jo b14 jv yj c17 gv i13).isSome) (k110_o39 d3 j5 jo b14 jv yj c17 gv ((k110_l39 F d3 j5 jo b14 jv yj c17 gv i13).getD default)) .fail
  | _, _, _, _ => .fail⟩
theorem k110_step39 (F : Nat) (d3 : Int) (j5 : Nat) (jo : Nat) (b14 : List Int) (jv : List (List Int)) (yj : List (List Int)) (c17 : List Int) (gv : List (List Int)) (i13 : Int) {R : Type} (k : Out → Option R) : stepS tt (k110_tab F) (k110_LS0 F) 70 (k110_ls39 F) (u010 39 (u000 Tryz.f3)) (k110_st39 d3 j5 jo b14 jv yj c17 gv i13) k = k110_s39 F d3 j5 jo b14 jv yj c17 gv R i13 (fun s => k (.norm (k110_st39 d3 j5 jo b14 jv yj c17 gv s))) (fun x => (k110_o39 d3 j5 jo b14 jv yj c17 gv x).run k) := by kernel_rfl
theorem k110_iter39 (F : Nat) (d3 : Int) (j5 : Nat) (jo : Nat) (b14 : List Int) (jv : List (List Int)) (yj : List (List Int)) (c17 : List Int) (gv : List (List Int)) {R : Type} (k : Out → Option R) : ∀ (n : Nat) (i13 : Int), iterS tt (k110_tab F) (k110_LS0 F) 70 (k110_ls39 F) (u010 39 (u000 Tryz.f3)) n (k110_st39 d3 j5 jo b14 jv yj c17 gv i13) k = loopC (k110_s39 F d3 j5 jo b14 jv yj c17 gv) n i13 (fun x => (k110_o39 d3 j5 jo b14 jv yj c17 gv x).run k)
  | 0, i13 => rfl
  | n + 1, i13 => (u017 tt (k110_tab F) (k110_LS0 F) 70 (k110_ls39 F) (u010 39 (u000 Tryz.f3)) n (k110_st39 d3 j5 jo b14 jv yj c17 gv i13) k).trans ((k110_step39 F d3 j5 jo b14 jv yj c17 gv i13 (nextK (iterS tt (k110_tab F) (k110_LS0 F) 70 (k110_ls39 F) (u010 39 (u000 Tryz.f3)) n) k)).trans (congrArg (fun kn => k110_s39 F d3 j5 jo b14 jv yj c17 gv R i13 kn _) (funext (fun i13 => k110_iter39 F d3 j5 jo b14 jv yj c17 gv k n i13))))
theorem k110_lok39 (F : Nat) : u041 Tryz.prog (u010 39 (u000 Tryz.f3)) (k110_ls39 F) := by
  refine u019 mixed ttok deep (k110_tabok F) (u016 (k110_lsok0 F) 39) (fuel := 70) fun R vals mem np killed k x h => ?_
  simp only [k110_ls39] at h
  split at h
  · rename_i d3 j5 q_want7 jo i13 b14 jv yj c17 gv
    simp only [GT.run] at h
    have hc := (u007 h).1
    replace h := (u007 h).2
    have hg := (u013 hc).1
    replace hc := (u013 hc).2
    obtain rfl := u032 hg
    refine ⟨F, (k110_iter39 F d3 j5 jo b14 jv yj c17 gv k F i13).trans ((u020 (k110_s39_nat F d3 j5 jo b14 jv yj c17 gv) hc _).trans h)⟩
  · simp only [GT.run] at h
    cases h
noncomputable def k110_LS1 (F : Nat) : LT := (39, k110_ls39 F) :: k110_LS0 F
theorem k110_lsok1 (F : Nat) : u011 Tryz.prog (k110_LS1 F) (u000 Tryz.f3) := u012 k110_keys (k110_lok39 F) (k110_lsok0 F)
def k110_st46 (d3 : Int) (j5 : Nat) (b9 : List Int) (vo : List (List Int)) (jj : List (List Int)) (i8 : Int) : St := ⟨u018 379 0 [3, 4, 5, 7, 46] [(.ptr 0 0 0 16), (.int .i64 d3), (.sl 1 0 j5), (.sl 2 0 (List.length jj)), (.int .i64 i8)], [(.var 16 (.ri .i64 b9)), (.vec 27 (.rr 16 vo)), (.vec 27 (.rr 16 jj))], 0, []⟩
def k110_o46 (d3 : Int) (j5 : Nat) (b9 : List Int) (vo : List (List Int)) (jj : List (List Int)) (x : Bool) : GT := (.br x (.out (.ret ⟨u018 379 0 [2] [(.bool false)], [], 0, []⟩)) (.out (.exit 2 ⟨u018 379 0 [] [], [], 0, []⟩)))
def k110_ls46 (F : Nat) : LoopS := ⟨379, [3, 4, 5, 7, 46], [], [], [], [2], [], [], fun vals mem np killed => match vals, mem, np, killed with
  | [(.ptr 0 0 0 16), (.int .i64 d3), (.sl 1 0 j5), (.sl 2 0 q_want7), (.int .i64 i8)], [(.var 16 (.ri .i64 b9)), (.vec 27 (.rr 16 vo)), (.vec 27 (.rr 16 jj))], 0, [] => .br ((Nat.beq q_want7 (List.length jj)) && (k110_l46 F d3 j5 b9 vo jj i8).isSome) (k110_o46 d3 j5 b9 vo jj ((k110_l46 F d3 j5 b9 vo jj i8).getD default)) .fail
  | _, _, _, _ => .fail⟩
theorem k110_step46 (F : Nat) (d3 : Int) (j5 : Nat) (b9 : List Int) (vo : List (List Int)) (jj : List (List Int)) (i8 : Int) {R : Type} (k : Out → Option R) : stepS tt (k110_tab F) (k110_LS1 F) 70 (k110_ls46 F) (u010 46 (u000 Tryz.f3)) (k110_st46 d3 j5 b9 vo jj i8) k = k110_s46 F d3 j5 b9 vo jj R i8 (fun s => k (.norm (k110_st46 d3 j5 b9 vo jj s))) (fun x => (k110_o46 d3 j5 b9 vo jj x).run k) := by kernel_rfl
theorem k110_iter46 (F : Nat) (d3 : Int) (j5 : Nat) (b9 : List Int) (vo : List (List Int)) (jj : List (List Int)) {R : Type} (k : Out → Option R) : ∀ (n : Nat) (i8 : Int), iterS tt (k110_tab F) (k110_LS1 F) 70 (k110_ls46 F) (u010 46 (u000 Tryz.f3)) n (k110_st46 d3 j5 b9 vo jj i8) k = loopC (k110_s46 F d3 j5 b9 vo jj) n i8 (fun x => (k110_o46 d3 j5 b9 vo jj x).run k)
  | 0, i8 => rfl
  | n + 1, i8 => (u017 tt (k110_tab F) (k110_LS1 F) 70 (k110_ls46 F) (u010 46 (u000 Tryz.f3)) n (k110_st46 d3 j5 b9 vo jj i8) k).trans ((k110_step46 F d3 j5 b9 vo jj i8 (nextK (iterS tt (k110_tab F) (k110_LS1 F) 70 (k110_ls46 F) (u010 46 (u000 Tryz.f3)) n) k)).trans (congrArg (fun kn => k110_s46 F d3 j5 b9 vo jj R i8 kn _) (funext (fun i8 => k110_iter46 F d3 j5 b9 vo jj k n i8))))
theorem k110_lok46 (F : Nat) : u041 Tryz.prog (u010 46 (u000 Tryz.f3)) (k110_ls46 F) := by
  refine u019 mixed ttok deep (k110_tabok F) (u016 (k110_lsok1 F) 46) (fuel := 70) fun R vals mem np killed k x h => ?_
  simp only [k110_ls46] at h
  split at h
  · rename_i d3 j5 q_want7 i8 b9 vo jj
    simp only [GT.run] at h
    have hc := (u007 h).1
    replace h := (u007 h).2
    have hg := (u013 hc).1
    replace hc := (u013 hc).2
    obtain rfl := u032 hg
    refine ⟨F, (k110_iter46 F d3 j5 b9 vo jj k F i8).trans ((u020 (k110_s46_nat F d3 j5 b9 vo jj) hc _).trans h)⟩
  · simp only [GT.run] at h
    cases h
noncomputable def k110_LS2 (F : Nat) : LT := (46, k110_ls46 F) :: k110_LS1 F
theorem k110_lsok2 (F : Nat) : u011 Tryz.prog (k110_LS2 F) (u000 Tryz.f3) := u012 k110_keys (k110_lok46 F) (k110_lsok1 F)
theorem k110_fok : FunOK Tryz.prog 3 := funOK Tryz.func3 (by kernel_rfl) rfl
def k49_entT (F : Nat) : Ent := ⟨[], .quiet, fun args mem => match args, mem with
  | [(.ints 16 b0), (.int .i64 j1)], [] => some (((k49_p F b0 j1).isSome && ((k49_p F b0 j1).getD default).2), ⟨(.tup [(.int .i64 ((k49_p F b0 j1).getD default).1), (.bool true)]), [], []⟩)
  | _, _ => none⟩
theorem k49_meetsT (F : Nat) : Meets Tryz.prog 8 (k49_entT F) := by
  intro fr w ρ mem args reals hw ha ret hg
  refine k49_meets F fr w ρ mem args reals hw ha ret ?_
  simp only [k49_entT] at hg
  split at hg
  · simp only [Option.some.injEq, Prod.mk.injEq, Bool.and_eq_true, Bool.not_eq_true'] at hg
    obtain ⟨⟨h1, h2⟩, rfl⟩ := hg
    simp only [k49_ent, h1, h2]
  · cases hg
def k49_entF (F : Nat) : Ent := ⟨[], .quiet, fun args mem => match args, mem with
  | [(.ints 16 b0), (.int .i64 j1)], [] => some (((k49_p F b0 j1).isSome && (!((k49_p F b0 j1).getD default).2)), ⟨(.tup [(.int .i64 ((k49_p F b0 j1).getD default).1), (.bool false)]), [], []⟩)
  | _, _ => none⟩
theorem k49_meetsF (F : Nat) : Meets Tryz.prog 8 (k49_entF F) := by
  intro fr w ρ mem args reals hw ha ret hg
  refine k49_meets F fr w ρ mem args reals hw ha ret ?_
  simp only [k49_entF] at hg
  split at hg
  · simp only [Option.some.injEq, Prod.mk.injEq, Bool.and_eq_true, Bool.not_eq_true'] at hg
    obtain ⟨⟨h1, h2⟩, rfl⟩ := hg
    simp only [k49_ent, h1, h2]
  · cases hg
def k77_entT (F : Nat) : Ent := ⟨[], .quiet, fun args mem => match args, mem with
  | [(.ints 16 b0), (.int .i64 j1), (.int .i64 k2)], [] => some (((k77_p F b0 j1 k2).isSome && ((k77_p F b0 j1 k2).getD default).2), ⟨(.tup [(.ints 16 ((k77_p F b0 j1 k2).getD default).1), (.bool true)]), [], []⟩)
  | _, _ => none⟩
theorem k77_meetsT (F : Nat) : Meets Tryz.prog 23 (k77_entT F) := by
  intro fr w ρ mem args reals hw ha ret hg
  refine k77_meets F fr w ρ mem args reals hw ha ret ?_
  simp only [k77_entT] at hg
  split at hg
  · simp only [Option.some.injEq, Prod.mk.injEq, Bool.and_eq_true, Bool.not_eq_true'] at hg
    obtain ⟨⟨h1, h2⟩, rfl⟩ := hg
    simp only [k77_ent, h1, h2]
  · cases hg
def k77_entF (F : Nat) : Ent := ⟨[], .quiet, fun args mem => match args, mem with
  | [(.ints 16 b0), (.int .i64 j1), (.int .i64 k2)], [] => some (((k77_p F b0 j1 k2).isSome && (!((k77_p F b0 j1 k2).getD default).2)), ⟨(.tup [(.ints 16 ((k77_p F b0 j1 k2).getD default).1), (.bool false)]), [], []⟩)
  | _, _ => none⟩
theorem k77_meetsF (F : Nat) : Meets Tryz.prog 23 (k77_entF F) := by
  intro fr w ρ mem args reals hw ha ret hg
  refine k77_meets F fr w ρ mem args reals hw ha ret ?_
  simp only [k77_entF] at hg
  split at hg
  · simp only [Option.some.injEq, Prod.mk.injEq, Bool.and_eq_true, Bool.not_eq_true'] at hg
    obtain ⟨⟨h1, h2⟩, rfl⟩ := hg
    simp only [k77_ent, h1, h2]
  · cases hg
end Go.Proofs.YtabfliifleonaakGreat
