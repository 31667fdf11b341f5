/-
Pure functions and what the code of them does, by program; without conditions.
-/
import Derived.Test.YtabfliifleonaakGreatQkPG3
import Derived.Test.YtabfliifleonaakGreatQkP4
import Derived.Test.YtabfliifleonaakGreatQkS3
namespace Go.Proofs.YtabfliifleonaakGreat
open Go Go.Lv Go.Lv.P Go.Proofs
set_option linter.unusedVariables false
set_option linter.unusedSimpArgs false
set_option maxRecDepth 100000
noncomputable def k5_tab (F : Nat) : Tab := [(36, (k26_ent F))]
theorem k5_tabok (F : Nat) : TabOK Tryz.prog (k5_tab F) := (u001 (k26_meets F) k26_fok u015)
noncomputable def k5_LS0 (F : Nat) : LT := []
theorem k5_lsok0 (F : Nat) : u011 Tryz.prog (k5_LS0 F) (u000 Tryz.f67) := u005
theorem k5_keys : u059 (u000 Tryz.f67) = true := by kernel_rfl
def k5_st2 (s0 : List (List Int)) (t74 : Int) (f6 : List Int) (t85 : Int) : St := ⟨u018 19 0 [0, 1, 7, 8] [(.rr 16 s0), (.fn 36 [] [(.ptr 0 0 0 16)]), (.int .i64 t74), (.int .i64 t85)], [(.var 16 (.ri .i64 f6))], 1, []⟩
def k5_o2 (s0 : List (List Int)) (t74 : Int) (f6 : List Int) (x : Bool × Int) : GT := (.br x.1 (.out (.ret ⟨u018 19 0 [4] [(.int .i64 x.2)], [(.var 16 (.ri .i64 f6))], 1, []⟩)) (.out (.exit 0 ⟨u018 19 0 [] [], [(.var 16 (.ri .i64 f6))], 1, []⟩)))
def k5_ls2 (F : Nat) : LoopS := ⟨19, [0, 1, 7, 8], [], [], [], [4], [], [], fun vals mem np killed => match vals, mem, np, killed with
  | [(.rr 16 s0), (.fn 36 [] [(.ptr 0 0 0 16)]), (.int .i64 t74), (.int .i64 t85)], [(.var 16 (.ri .i64 f6))], 1, [] => .br (k5_l2 F s0 t74 f6 t85).isSome (k5_o2 s0 t74 f6 ((k5_l2 F s0 t74 f6 t85).getD default)) .fail
  | _, _, _, _ => .fail⟩
theorem k5_step2 (F : Nat) (s0 : List (List Int)) (t74 : Int) (f6 : List Int) (t85 : Int) {R : Type} (k : Out → Option R) : stepS tt (k5_tab F) (k5_LS0 F) 70 (k5_ls2 F) (u010 2 (u000 Tryz.f67)) (k5_st2 s0 t74 f6 t85) k = k5_s2 F s0 t74 f6 R t85 (fun s => k (.norm (k5_st2 s0 t74 f6 s))) (fun x => (k5_o2 s0 t74 f6 x).run k) := by kernel_rfl
theorem k5_iter2 (F : Nat) (s0 : List (List Int)) (t74 : Int) (f6 : List Int) {R : Type} (k : Out → Option R) : ∀ (n : Nat) (t85 : Int), iterS tt (k5_tab F) (k5_LS0 F) 70 (k5_ls2 F) (u010 2 (u000 Tryz.f67)) n (k5_st2 s0 t74 f6 t85) k = loopC (k5_s2 F s0 t74 f6) n t85 (fun x => (k5_o2 s0 t74 f6 x).run k)
  | 0, t85 => rfl
  | n + 1, t85 => (u017 tt (k5_tab F) (k5_LS0 F) 70 (k5_ls2 F) (u010 2 (u000 Tryz.f67)) n (k5_st2 s0 t74 f6 t85) k).trans ((k5_step2 F s0 t74 f6 t85 (nextK (iterS tt (k5_tab F) (k5_LS0 F) 70 (k5_ls2 F) (u010 2 (u000 Tryz.f67)) n) k)).trans (congrArg (fun kn => k5_s2 F s0 t74 f6 R t85 kn _) (funext (fun t85 => k5_iter2 F s0 t74 f6 k n t85))))
theorem k5_lok2 (F : Nat) : u041 Tryz.prog (u010 2 (u000 Tryz.f67)) (k5_ls2 F) := by
  refine u019 mixed ttok deep (k5_tabok F) (u016 (k5_lsok0 F) 2) (fuel := 70) fun R vals mem np killed k x h => ?_
  simp only [k5_ls2] at h
  split at h
  · rename_i s0 t74 t85 f6
    simp only [GT.run] at h
    have hc := (u007 h).1
    replace h := (u007 h).2
    refine ⟨F, (k5_iter2 F s0 t74 f6 k F t85).trans ((u020 (k5_s2_nat F s0 t74 f6) hc _).trans h)⟩
  · simp only [GT.run] at h
    cases h
noncomputable def k5_LS1 (F : Nat) : LT := (2, k5_ls2 F) :: k5_LS0 F
theorem k5_lsok1 (F : Nat) : u011 Tryz.prog (k5_LS1 F) (u000 Tryz.f67) := u012 k5_keys (k5_lok2 F) (k5_lsok0 F)
theorem k5_run (F : Nat) (s0 : List (List Int)) (f4 : List Int) : runS tt (k5_tab F) (k5_LS1 F) [] [] Tryz.f67 (u000 Tryz.f67) 70 [(.rr 16 s0), (.fn 36 [] [(.ptr 0 0 0 16)])] [(.var 16 (.ri .i64 f4))] = k5_c _ F s0 f4 (fun r => some ⟨(.int .i64 r), [(.var 16 (.ri .i64 f4))], []⟩) := by kernel_rfl
def k5_ent (F : Nat) : Ent := ⟨[], .quiet, fun args mem => match args, mem with
  | [(.rr 16 s0), (.fn 36 [] [(.ptr 0 0 0 16)])], [(.var 16 (.ri .i64 f4))] => some ((k5_p F s0 f4).isSome, ⟨(.int .i64 ((k5_p F s0 f4).getD default)), [], []⟩)
  | _, _ => none⟩
theorem k5_fok : FunOK Tryz.prog 67 := funOK Tryz.func67 (by kernel_rfl) rfl
theorem k5_meets (F : Nat) : Meets Tryz.prog 67 (k5_ent F) := by
  refine u002 mixed ttok deep (k5_tabok F) Tryz.func67 (u009 rfl) (k5_lsok1 F) fun args mem hfit ret h => ?_
  clear hfit
  simp only [k5_ent] at h
  split at h
  · rename_i s0 f4
    simp only [Option.some.injEq, Prod.mk.injEq] at h
    obtain ⟨hc, rfl⟩ := h
    exact ⟨[], [], 70, _, (k5_run F s0 f4).trans ((k5_cp _ F s0 f4 _).trans (u014 hc _)), rfl, rfl, rfl⟩
  · cases h
noncomputable def k4_tab (F : Nat) : Tab := [(67, (k5_ent F)), (36, (k26_ent F))]
theorem k4_tabok (F : Nat) : TabOK Tryz.prog (k4_tab F) := (u001 (k5_meets F) k5_fok (u001 (k26_meets F) k26_fok u015))
noncomputable def k4_LS0 (F : Nat) : LT := []
theorem k4_lsok0 (F : Nat) : u011 Tryz.prog (k4_LS0 F) (u000 Tryz.f35) := u005
theorem k4_keys : u059 (u000 Tryz.f35) = true := by kernel_rfl
def k4_st5 (s1 : Nat) (jb : List Int) (i5 : Int) (j6 : Int) (s7 : List (List Int)) : St := ⟨u018 42 0 [0, 1, 5, 6] [(.sl 0 0 s1), (.fn 36 [] [(.ptr 1 0 0 16)]), (.int .i64 i5), (.int .i64 j6)], [(.vec 27 (.rr 16 s7)), (.var 16 (.ri .i64 jb))], 2, []⟩
def k4_o5 (s1 : Nat) (jb : List Int) (x : Int × List (List Int)) : GT := (.out (.exit 0 ⟨u018 42 0 [0, 5] [(.sl 0 0 s1), (.int .i64 x.1)], [(.vec 27 (.rr 16 x.2)), (.var 16 (.ri .i64 jb))], 2, []⟩))
def k4_ls5 (F : Nat) : LoopS := ⟨42, [0, 1, 5, 6], [], [0, 5], [], [4], [], [], fun vals mem np killed => match vals, mem, np, killed with
  | [(.sl 0 0 s1), (.fn 36 [] [(.ptr 1 0 0 16)]), (.int .i64 i5), (.int .i64 j6)], [(.vec 27 (.rr 16 s7)), (.var 16 (.ri .i64 jb))], 2, [] => .br (k4_l5 F s1 jb i5 j6 s7).isSome (k4_o5 s1 jb ((k4_l5 F s1 jb i5 j6 s7).getD default)) .fail
  | _, _, _, _ => .fail⟩
theorem k4_step5 (F : Nat) (s1 : Nat) (jb : List Int) (i5 : Int) (j6 : Int) (s7 : List (List Int)) {R : Type} (k : Out → Option R) : stepS tt (k4_tab F) (k4_LS0 F) 70 (k4_ls5 F) (u010 5 (u000 Tryz.f35)) (k4_st5 s1 jb i5 j6 s7) k = k4_s5 F s1 jb R (i5, j6, s7) (fun s => k (.norm (k4_st5 s1 jb s.1 s.2.1 s.2.2))) (fun x => (k4_o5 s1 jb x).run k) := by kernel_rfl
theorem k4_iter5 (F : Nat) (s1 : Nat) (jb : List Int) {R : Type} (k : Out → Option R) : ∀ (n : Nat) (i5 : Int) (j6 : Int) (s7 : List (List Int)), iterS tt (k4_tab F) (k4_LS0 F) 70 (k4_ls5 F) (u010 5 (u000 Tryz.f35)) n (k4_st5 s1 jb i5 j6 s7) k = loopC (k4_s5 F s1 jb) n (i5, j6, s7) (fun x => (k4_o5 s1 jb x).run k)
  | 0, i5, j6, s7 => rfl
  | n + 1, i5, j6, s7 => (u017 tt (k4_tab F) (k4_LS0 F) 70 (k4_ls5 F) (u010 5 (u000 Tryz.f35)) n (k4_st5 s1 jb i5 j6 s7) k).trans ((k4_step5 F s1 jb i5 j6 s7 (nextK (iterS tt (k4_tab F) (k4_LS0 F) 70 (k4_ls5 F) (u010 5 (u000 Tryz.f35)) n) k)).trans (congrArg (fun kn => k4_s5 F s1 jb R (i5, j6, s7) kn _) (funext (fun ⟨i5, j6, s7⟩ => k4_iter5 F s1 jb k n i5 j6 s7))))
theorem k4_lok5 (F : Nat) : u041 Tryz.prog (u010 5 (u000 Tryz.f35)) (k4_ls5 F) := by
  refine u019 mixed ttok deep (k4_tabok F) (u016 (k4_lsok0 F) 5) (fuel := 70) fun R vals mem np killed k x h => ?_
  simp only [k4_ls5] at h
  split at h
  · rename_i s1 i5 j6 s7 jb
    simp only [GT.run] at h
    have hc := (u007 h).1
    replace h := (u007 h).2
    refine ⟨F, (k4_iter5 F s1 jb k F i5 j6 s7).trans ((u020 (k4_s5_nat F s1 jb) hc _).trans h)⟩
  · simp only [GT.run] at h
    cases h
noncomputable def k4_LS1 (F : Nat) : LT := (5, k4_ls5 F) :: k4_LS0 F
theorem k4_lsok1 (F : Nat) : u011 Tryz.prog (k4_LS1 F) (u000 Tryz.f35) := u012 k4_keys (k4_lok5 F) (k4_lsok0 F)
theorem k4_run (F : Nat) (s5 : List (List Int)) (gg : List Int) : runS tt (k4_tab F) (k4_LS1 F) [] [] Tryz.f35 (u000 Tryz.f35) 70 [(.sl 0 0 (List.length s5)), (.fn 36 [] [(.ptr 1 0 0 16)])] [(.vec 27 (.rr 16 s5)), (.var 16 (.ri .i64 gg))] = k4_c _ F s5 gg (fun r => some ⟨(.sl 0 0 r.1), [(.vec 27 (.rr 16 r.2)), (.var 16 (.ri .i64 gg))], []⟩) := by kernel_rfl
def k4_ent (F : Nat) : Ent := ⟨[true], .loud, fun args mem => match args, mem with
  | [(.sl 0 0 q_s1), (.fn 36 [] [(.ptr 1 0 0 16)])], [(.vec 27 (.rr 16 s5)), (.var 16 (.ri .i64 gg))] => some (((Nat.beq q_s1 (List.length s5)) && (k4_p F s5 gg).isSome), ⟨(.sl 0 0 ((k4_p F s5 gg).getD default).1), [(.vec 27 (.rr 16 ((k4_p F s5 gg).getD default).2)), (.var 16 (.ri .i64 gg))], []⟩)
  | _, _ => none⟩
theorem k4_fok : FunOK Tryz.prog 35 := funOK Tryz.func35 (by kernel_rfl) rfl
theorem k4_meets (F : Nat) : Meets Tryz.prog 35 (k4_ent F) := by
  refine u002 mixed ttok deep (k4_tabok F) Tryz.func35 (u009 rfl) (k4_lsok1 F) fun args mem hfit ret h => ?_
  clear hfit
  simp only [k4_ent] at h
  split at h
  · rename_i q_s1 s5 gg
    simp only [Option.some.injEq, Prod.mk.injEq] at h
    obtain ⟨hc, rfl⟩ := h
    have hg := (u013 hc).1
    replace hc := (u013 hc).2
    obtain rfl := u032 hg
    exact ⟨[], [], 70, _, (k4_run F s5 gg).trans ((k4_cp _ F s5 gg _).trans (u014 hc _)), rfl, rfl, rfl⟩
  · cases h
noncomputable def k32_tab (F : Nat) : Tab := []
theorem k32_tabok (F : Nat) : TabOK Tryz.prog (k32_tab F) := u015
noncomputable def k32_LS0 (F : Nat) : LT := []
theorem k32_lsok0 (F : Nat) : u011 Tryz.prog (k32_LS0 F) (u000 Tryz.f121) := u005
theorem k32_run (F : Nat) (n0 : Int) : runS tt (k32_tab F) (k32_LS0 F) [⟨4, 3, (.ri .i64 ([] : List Int))⟩] [] Tryz.f121 (u000 Tryz.f121) 70 [.z0, (.int .i64 n0)] [] = k32_c _ n0 (fun r => some ⟨(.sl 0 0 0), [(.vec 3 (.ri .i64 r))], []⟩) := by kernel_rfl
def k32_ent (F : Nat) : Ent := ⟨[true], .fresh, fun args mem => match args, mem with
  | [.z0, (.int .i64 n0)], [] => some ((k32_p n0).isSome, ⟨(.sl 0 0 0), [(.vec 3 (.ri .i64 ((k32_p n0).getD default)))], []⟩)
  | _, _ => none⟩
theorem k32_fok : FunOK Tryz.prog 121 := funOK Tryz.func121 (by kernel_rfl) rfl
theorem k32_meets (F : Nat) : Meets Tryz.prog 121 (k32_ent F) := by
  refine u002 mixed ttok deep (k32_tabok F) Tryz.func121 (u009 rfl) (k32_lsok0 F) fun args mem hfit ret h => ?_
  clear hfit
  simp only [k32_ent] at h
  split at h
  · rename_i n0
    simp only [Option.some.injEq, Prod.mk.injEq] at h
    obtain ⟨hc, rfl⟩ := h
    exact ⟨[⟨4, 3, (.ri .i64 ([] : List Int))⟩], [], 70, _, (k32_run F n0).trans ((k32_cp _ n0 _).trans (u014 hc _)), rfl, rfl, rfl⟩
  · cases h
noncomputable def k27_tab (F : Nat) : Tab := [(121, (k32_ent F))]
theorem k27_tabok (F : Nat) : TabOK Tryz.prog (k27_tab F) := (u001 (k32_meets F) k32_fok u015)
noncomputable def k27_LS0 (F : Nat) : LT := []
theorem k27_lsok0 (F : Nat) : u011 Tryz.prog (k27_LS0 F) (u000 Tryz.f99) := u005
theorem k27_run (F : Nat) (yy : List Int) (jy : List Int) (gy : List Int) (wy : List Int) : runS tt (k27_tab F) (k27_LS0 F) [] [] Tryz.f99 (u000 Tryz.f99) 70 [(.rv [(.ri .i64 yy), (.ri .i64 jy), (.ri .i64 gy), (.ri .i64 wy)])] [] = k27_c _ yy jy gy wy (fun r => some ⟨(.sl 0 0 (List.length r)), [(.vec 3 (.ri .i64 r))], []⟩) := by kernel_rfl
def k27_ent (F : Nat) : Ent := ⟨[], .fresh, fun args mem => match args, mem with
  | [(.rv [(.ri .i64 yy), (.ri .i64 jy), (.ri .i64 gy), (.ri .i64 wy)])], [] => some ((k27_p yy jy gy wy).isSome, ⟨(.sl 0 0 (List.length ((k27_p yy jy gy wy).getD default))), [(.vec 3 (.ri .i64 ((k27_p yy jy gy wy).getD default)))], []⟩)
  | _, _ => none⟩
theorem k27_fok : FunOK Tryz.prog 99 := funOK Tryz.func99 (by kernel_rfl) rfl
theorem k27_meets (F : Nat) : Meets Tryz.prog 99 (k27_ent F) := by
  refine u002 mixed ttok deep (k27_tabok F) Tryz.func99 (u009 rfl) (k27_lsok0 F) fun args mem hfit ret h => ?_
  clear hfit
  simp only [k27_ent] at h
  split at h
  · rename_i yy jy gy wy
    simp only [Option.some.injEq, Prod.mk.injEq] at h
    obtain ⟨hc, rfl⟩ := h
    exact ⟨[], [], 70, _, (k27_run F yy jy gy wy).trans ((k27_cp _ yy jy gy wy _).trans (u014 hc _)), rfl, rfl, rfl⟩
  · cases h
noncomputable def k55_tab (F : Nat) : Tab := [(99, (k27_ent F))]
theorem k55_tabok (F : Nat) : TabOK Tryz.prog (k55_tab F) := (u001 (k27_meets F) k27_fok u015)
noncomputable def k55_LS0 (F : Nat) : LT := []
theorem k55_lsok0 (F : Nat) : u011 Tryz.prog (k55_LS0 F) (u000 Tryz.f80) := u005
theorem k55_run (F : Nat) (b0 : List Int) : runS tt (k55_tab F) (k55_LS0 F) [] [] Tryz.f80 (u000 Tryz.f80) 70 [(.ints 16 b0)] [] = k55_c _ b0 (fun r => some ⟨(.sl 0 0 (List.length r)), [(.vec 3 (.ri .i64 r))], []⟩) := by kernel_rfl
def k55_ent (F : Nat) : Ent := ⟨[], .fresh, fun args mem => match args, mem with
  | [(.ints 16 b0)], [] => some ((k55_p b0).isSome, ⟨(.sl 0 0 (List.length ((k55_p b0).getD default))), [(.vec 3 (.ri .i64 ((k55_p b0).getD default)))], []⟩)
  | _, _ => none⟩
theorem k55_fok : FunOK Tryz.prog 80 := funOK Tryz.func80 (by kernel_rfl) rfl
theorem k55_meets (F : Nat) : Meets Tryz.prog 80 (k55_ent F) := by
  refine u002 mixed ttok deep (k55_tabok F) Tryz.func80 (u009 rfl) (k55_lsok0 F) fun args mem hfit ret h => ?_
  clear hfit
  simp only [k55_ent] at h
  split at h
  · rename_i b0
    simp only [Option.some.injEq, Prod.mk.injEq] at h
    obtain ⟨hc, rfl⟩ := h
    exact ⟨[], [], 70, _, (k55_run F b0).trans ((k55_cp _ b0 _).trans (u014 hc _)), rfl, rfl, rfl⟩
  · cases h
noncomputable def k47_tab (F : Nat) : Tab := [(80, (k55_ent F)), (79, (k23_ent F))]
theorem k47_tabok (F : Nat) : TabOK Tryz.prog (k47_tab F) := (u001 (k55_meets F) k55_fok (u001 (k23_meets F) k23_fok u015))
noncomputable def k47_LS0 (F : Nat) : LT := []
theorem k47_lsok0 (F : Nat) : u011 Tryz.prog (k47_LS0 F) (u000 Tryz.f57) := u005
theorem k47_run (F : Nat) (b0 : List Int) (c1 : List Int) : runS tt (k47_tab F) (k47_LS0 F) [] [] Tryz.f57 (u000 Tryz.f57) 70 [(.ints 16 b0), (.ints 16 c1)] [] = k47_c _ F b0 c1 (fun r => some ⟨(.int .i64 r), [], []⟩) := by kernel_rfl
def k47_ent (F : Nat) : Ent := ⟨[], .quiet, fun args mem => match args, mem with
  | [(.ints 16 b0), (.ints 16 c1)], [] => some ((k47_p F b0 c1).isSome, ⟨(.int .i64 ((k47_p F b0 c1).getD default)), [], []⟩)
  | _, _ => none⟩
theorem k47_fok : FunOK Tryz.prog 57 := funOK Tryz.func57 (by kernel_rfl) rfl
theorem k47_meets (F : Nat) : Meets Tryz.prog 57 (k47_ent F) := by
  refine u002 mixed ttok deep (k47_tabok F) Tryz.func57 (u009 rfl) (k47_lsok0 F) fun args mem hfit ret h => ?_
  clear hfit
  simp only [k47_ent] at h
  split at h
  · rename_i b0 c1
    simp only [Option.some.injEq, Prod.mk.injEq] at h
    obtain ⟨hc, rfl⟩ := h
    exact ⟨[], [], 70, _, (k47_run F b0 c1).trans ((k47_cp _ F b0 c1 _).trans (u014 hc _)), rfl, rfl, rfl⟩
  · cases h
def u035 (F : Nat) : Ent := sortEnt 57 16 27 F
theorem u049 : FunOK Tryz.prog 65 := funOK Tryz.func65 (by kernel_rfl) rfl
theorem u046 (F : Nat) : Meets Tryz.prog 65 (u035 F) := by
  refine u278 Tryz.sort65 16 27 F Tryz.isAgg27 Tryz.sizeOf27 57 (enters_of Tryz.func57 (by kernel_rfl) rfl) (k47_ent F) (k47_meets F) rfl fun hF x y hx hy => ?_
  simp only [k47_ent, k47_cmp F hF hx hy, Option.isSome_some, Option.getD_some]
noncomputable def k19_tab (F : Nat) : Tab := []
theorem k19_tabok (F : Nat) : TabOK Tryz.prog (k19_tab F) := u015
noncomputable def k19_LS0 (F : Nat) : LT := []
theorem k19_lsok0 (F : Nat) : u011 Tryz.prog (k19_LS0 F) (u000 Tryz.f66) := u005
theorem k19_keys : u059 (u000 Tryz.f66) = true := by kernel_rfl
def k19_st9 (s1 : Nat) (s23 : Nat) (s24 : Nat) (k2 : Int) (k25 : Int) (s6 : List (List Int)) : St := ⟨u018 61 0 [0, 3, 4, 5] [(.sl 0 0 s1), (.int .i64 k2), (.sl 0 s23 s24), (.int .i64 k25)], [(.vec 27 (.rr 16 s6))], 1, []⟩
def k19_o9 (s1 : Nat) (s23 : Nat) (s24 : Nat) (x : Int × List (List Int)) : GT := (.out (.exit 2 ⟨u018 61 0 [0, 3] [(.sl 0 0 s1), (.int .i64 x.1)], [(.vec 27 (.rr 16 x.2))], 1, []⟩))
def k19_ls9 (F : Nat) : LoopS := ⟨61, [0, 3, 4, 5], [], [0, 3], [], [2], [], [], fun vals mem np killed => match vals, mem, np, killed with
  | [(.sl 0 0 s1), (.int .i64 k2), (.sl 0 s23 s24), (.int .i64 k25)], [(.vec 27 (.rr 16 s6))], 1, [] => .br (k19_l9 F s1 s23 s24 k2 k25 s6).isSome (k19_o9 s1 s23 s24 ((k19_l9 F s1 s23 s24 k2 k25 s6).getD default)) .fail
  | _, _, _, _ => .fail⟩
theorem k19_step9 (F : Nat) (s1 : Nat) (s23 : Nat) (s24 : Nat) (k2 : Int) (k25 : Int) (s6 : List (List Int)) {R : Type} (k : Out → Option R) : stepS tt (k19_tab F) (k19_LS0 F) 70 (k19_ls9 F) (u010 9 (u000 Tryz.f66)) (k19_st9 s1 s23 s24 k2 k25 s6) k = k19_s9 F s1 s23 s24 R (k2, k25, s6) (fun s => k (.norm (k19_st9 s1 s23 s24 s.1 s.2.1 s.2.2))) (fun x => (k19_o9 s1 s23 s24 x).run k) := by kernel_rfl
theorem k19_iter9 (F : Nat) (s1 : Nat) (s23 : Nat) (s24 : Nat) {R : Type} (k : Out → Option R) : ∀ (n : Nat) (k2 : Int) (k25 : Int) (s6 : List (List Int)), iterS tt (k19_tab F) (k19_LS0 F) 70 (k19_ls9 F) (u010 9 (u000 Tryz.f66)) n (k19_st9 s1 s23 s24 k2 k25 s6) k = loopC (k19_s9 F s1 s23 s24) n (k2, k25, s6) (fun x => (k19_o9 s1 s23 s24 x).run k)
  | 0, k2, k25, s6 => rfl
  | n + 1, k2, k25, s6 => (u017 tt (k19_tab F) (k19_LS0 F) 70 (k19_ls9 F) (u010 9 (u000 Tryz.f66)) n (k19_st9 s1 s23 s24 k2 k25 s6) k).trans ((k19_step9 F s1 s23 s24 k2 k25 s6 (nextK (iterS tt (k19_tab F) (k19_LS0 F) 70 (k19_ls9 F) (u010 9 (u000 Tryz.f66)) n) k)).trans (congrArg (fun kn => k19_s9 F s1 s23 s24 R (k2, k25, s6) kn _) (funext (fun ⟨k2, k25, s6⟩ => k19_iter9 F s1 s23 s24 k n k2 k25 s6))))
theorem k19_lok9 (F : Nat) : u041 Tryz.prog (u010 9 (u000 Tryz.f66)) (k19_ls9 F) := by
  refine u019 mixed ttok deep (k19_tabok F) (u016 (k19_lsok0 F) 9) (fuel := 70) fun R vals mem np killed k x h => ?_
  simp only [k19_ls9] at h
  split at h
  · rename_i s1 k2 s23 s24 k25 s6
    simp only [GT.run] at h
    have hc := (u007 h).1
    replace h := (u007 h).2
    refine ⟨F, (k19_iter9 F s1 s23 s24 k F k2 k25 s6).trans ((u020 (k19_s9_nat F s1 s23 s24) hc _).trans h)⟩
  · simp only [GT.run] at h
    cases h
noncomputable def k19_LS1 (F : Nat) : LT := (9, k19_ls9 F) :: k19_LS0 F
theorem k19_lsok1 (F : Nat) : u011 Tryz.prog (k19_LS1 F) (u000 Tryz.f66) := u012 k19_keys (k19_lok9 F) (k19_lsok0 F)
def k19_st4 (s1 : Nat) (s3 : List (List Int)) (k2 : Int) : St := ⟨u018 61 0 [0, 3] [(.sl 0 0 s1), (.int .i64 k2)], [(.vec 27 (.rr 16 s3))], 1, []⟩
def k19_o4 (s1 : Nat) (s3 : List (List Int)) (x : Bool × Nat × List (List Int)) : GT := (.br x.1 (.out (.ret ⟨u018 61 0 [2] [(.sl 0 0 x.2.1)], [(.vec 27 (.rr 16 x.2.2))], 1, []⟩)) (.out (.exit 0 ⟨u018 61 0 [0] [(.sl 0 0 s1)], [(.vec 27 (.rr 16 s3))], 1, []⟩)))
def k19_ls4 (F : Nat) : LoopS := ⟨61, [0, 3], [], [0], [], [2], [], [], fun vals mem np killed => match vals, mem, np, killed with
  | [(.sl 0 0 s1), (.int .i64 k2)], [(.vec 27 (.rr 16 s3))], 1, [] => .br (k19_l4 F s1 s3 k2).isSome (k19_o4 s1 s3 ((k19_l4 F s1 s3 k2).getD default)) .fail
  | _, _, _, _ => .fail⟩
theorem k19_step4 (F : Nat) (s1 : Nat) (s3 : List (List Int)) (k2 : Int) {R : Type} (k : Out → Option R) : stepS tt (k19_tab F) (k19_LS1 F) 70 (k19_ls4 F) (u010 4 (u000 Tryz.f66)) (k19_st4 s1 s3 k2) k = k19_s4 F s1 s3 R k2 (fun s => k (.norm (k19_st4 s1 s3 s))) (fun x => (k19_o4 s1 s3 x).run k) := by kernel_rfl
theorem k19_iter4 (F : Nat) (s1 : Nat) (s3 : List (List Int)) {R : Type} (k : Out → Option R) : ∀ (n : Nat) (k2 : Int), iterS tt (k19_tab F) (k19_LS1 F) 70 (k19_ls4 F) (u010 4 (u000 Tryz.f66)) n (k19_st4 s1 s3 k2) k = loopC (k19_s4 F s1 s3) n k2 (fun x => (k19_o4 s1 s3 x).run k)
  | 0, k2 => rfl
  | n + 1, k2 => (u017 tt (k19_tab F) (k19_LS1 F) 70 (k19_ls4 F) (u010 4 (u000 Tryz.f66)) n (k19_st4 s1 s3 k2) k).trans ((k19_step4 F s1 s3 k2 (nextK (iterS tt (k19_tab F) (k19_LS1 F) 70 (k19_ls4 F) (u010 4 (u000 Tryz.f66)) n) k)).trans (congrArg (fun kn => k19_s4 F s1 s3 R k2 kn _) (funext (fun k2 => k19_iter4 F s1 s3 k n k2))))
theorem k19_lok4 (F : Nat) : u041 Tryz.prog (u010 4 (u000 Tryz.f66)) (k19_ls4 F) := by
  refine u019 mixed ttok deep (k19_tabok F) (u016 (k19_lsok1 F) 4) (fuel := 70) fun R vals mem np killed k x h => ?_
  simp only [k19_ls4] at h
  split at h
  · rename_i s1 k2 s3
    simp only [GT.run] at h
    have hc := (u007 h).1
    replace h := (u007 h).2
    refine ⟨F, (k19_iter4 F s1 s3 k F k2).trans ((u020 (k19_s4_nat F s1 s3) hc _).trans h)⟩
  · simp only [GT.run] at h
    cases h
noncomputable def k19_LS2 (F : Nat) : LT := (4, k19_ls4 F) :: k19_LS1 F
theorem k19_lsok2 (F : Nat) : u011 Tryz.prog (k19_LS2 F) (u000 Tryz.f66) := u012 k19_keys (k19_lok4 F) (k19_lsok1 F)
theorem k19_run (F : Nat) (s1 : Nat) (s2 : List (List Int)) : runS tt (k19_tab F) (k19_LS2 F) [] [] Tryz.f66 (u000 Tryz.f66) 70 [(.sl 0 0 s1)] [(.vec 27 (.rr 16 s2))] = k19_c _ F s1 s2 (fun r => some ⟨(.sl 0 0 r.1), [(.vec 27 (.rr 16 r.2))], []⟩) := by kernel_rfl
def k19_ent (F : Nat) : Ent := ⟨[true], .loud, fun args mem => match args, mem with
  | [(.sl 0 0 s1)], [(.vec 27 (.rr 16 s2))] => some ((k19_p F s1 s2).isSome, ⟨(.sl 0 0 ((k19_p F s1 s2).getD default).1), [(.vec 27 (.rr 16 ((k19_p F s1 s2).getD default).2))], []⟩)
  | _, _ => none⟩
theorem k19_fok : FunOK Tryz.prog 66 := funOK Tryz.func66 (by kernel_rfl) rfl
theorem k19_meets (F : Nat) : Meets Tryz.prog 66 (k19_ent F) := by
  refine u002 mixed ttok deep (k19_tabok F) Tryz.func66 (u009 rfl) (k19_lsok2 F) fun args mem hfit ret h => ?_
  clear hfit
  simp only [k19_ent] at h
  split at h
  · rename_i s1 s2
    simp only [Option.some.injEq, Prod.mk.injEq] at h
    obtain ⟨hc, rfl⟩ := h
    exact ⟨[], [], 70, _, (k19_run F s1 s2).trans ((k19_cp _ F s1 s2 _).trans (u014 hc _)), rfl, rfl, rfl⟩
  · cases h
noncomputable def k98_tab (F : Nat) : Tab := [(65, (u035 F)), (66, (k19_ent F))]
theorem k98_tabok (F : Nat) : TabOK Tryz.prog (k98_tab F) := (u001 (u046 F) u049 (u001 (k19_meets F) k19_fok u015))
noncomputable def k98_LS0 (F : Nat) : LT := []
theorem k98_lsok0 (F : Nat) : u011 Tryz.prog (k98_LS0 F) (u000 Tryz.f34) := u005
theorem k98_run (F : Nat) (list1 : Nat) (list2 : List (List Int)) : runS tt (k98_tab F) (k98_LS0 F) [] [] Tryz.f34 (u000 Tryz.f34) 70 [(.sl 0 0 list1)] [(.vec 27 (.rr 16 list2))] = k98_c _ F list1 list2 (fun r => some ⟨(.sl 0 0 r.1), [(.vec 27 (.rr 16 r.2))], []⟩) := by kernel_rfl
def k98_ent (F : Nat) : Ent := ⟨[true], .loud, fun args mem => match args, mem with
  | [(.sl 0 0 list1)], [(.vec 27 (.rr 16 list2))] => some ((k98_p F list1 list2).isSome, ⟨(.sl 0 0 ((k98_p F list1 list2).getD default).1), [(.vec 27 (.rr 16 ((k98_p F list1 list2).getD default).2))], []⟩)
  | _, _ => none⟩
theorem k98_fok : FunOK Tryz.prog 34 := funOK Tryz.func34 (by kernel_rfl) rfl
theorem k98_meets (F : Nat) : Meets Tryz.prog 34 (k98_ent F) := by
  refine u002 mixed ttok deep (k98_tabok F) Tryz.func34 (u009 rfl) (k98_lsok0 F) fun args mem hfit ret h => ?_
  clear hfit
  simp only [k98_ent] at h
  split at h
  · rename_i list1 list2
    simp only [Option.some.injEq, Prod.mk.injEq] at h
    obtain ⟨hc, rfl⟩ := h
    exact ⟨[], [], 70, _, (k98_run F list1 list2).trans ((k98_cp _ F list1 list2 _).trans (u014 hc _)), rfl, rfl, rfl⟩
  · cases h
noncomputable def k34_tab (F : Nat) : Tab := [(29, (k96_ent F)), (30, (k50_ent F)), (31, (k21_ent F)), (32, (k22_ent F)), (33, (k29_ent F)), (35, (k4_ent F)), (34, (k98_ent F))]
theorem k34_tabok (F : Nat) : TabOK Tryz.prog (k34_tab F) := (u001 (k96_meets F) k96_fok (u001 (k50_meets F) k50_fok (u001 (k21_meets F) k21_fok (u001 (k22_meets F) k22_fok (u001 (k29_meets F) k29_fok (u001 (k4_meets F) k4_fok (u001 (k98_meets F) k98_fok u015)))))))
noncomputable def k34_LS0 (F : Nat) : LT := []
theorem k34_lsok0 (F : Nat) : u011 Tryz.prog (k34_LS0 F) (u000 Tryz.f6) := u005
theorem k34_keys : u059 (u000 Tryz.f6) = true := by kernel_rfl
def k34_st12 (j4 : Int) (i4 : Int) (wb : List (List Int)) (we : List (List Int)) (js : List (List Int)) (ws : List (List Int)) (vs : List (List Int)) (yt : Int) (jt : Int) (gt : Int) (jl : List (List Int)) (wt : Int) (b23 : List Int) (vt : List Int) (vi : List (List Int)) (ww : Int) (gl : List (List Int)) : St := ⟨u018 66 0 [1, 2, 7, 8, 9, 11, 32, 33, 38, 39, 40, 44, 45, 46] [(.int .i64 j4), (.ptr 0 0 0 16), (.int .i64 i4), (.rr 4 wb), (.sl 1 0 (List.length gl)), (.ptr 2 0 0 16), (.agg [(.rr 4 we), (.rr 4 js), (.rr 4 ws), (.rr 4 vs)]), (.int .i64 yt), (.sl 3 0 (List.length vi)), (.int .i64 jt), (.int .i64 gt), (.rr 4 jl), (.int .i64 wt), (.int .i64 ww)], [(.var 16 (.ri .i64 b23)), (.vec 27 (.rr 16 gl)), (.var 16 (.ri .i64 vt)), (.vec 27 (.rr 16 vi))], 0, []⟩
def k34_o12 (j4 : Int) (i4 : Int) (wb : List (List Int)) (we : List (List Int)) (js : List (List Int)) (ws : List (List Int)) (vs : List (List Int)) (yt : Int) (jt : Int) (gt : Int) (jl : List (List Int)) (wt : Int) (b23 : List Int) (vt : List Int) (vi : List (List Int)) (x : List (List Int)) : GT := (.out (.exit 4 ⟨u018 66 0 [1, 2, 7, 8, 9, 32, 33, 38, 39, 40] [(.int .i64 j4), (.ptr 0 0 0 16), (.int .i64 i4), (.rr 4 wb), (.sl 1 0 (List.length x)), (.agg [(.rr 4 we), (.rr 4 js), (.rr 4 ws), (.rr 4 vs)]), (.int .i64 yt), (.sl 2 0 (List.length vi)), (.int .i64 jt), (.int .i64 gt)], [(.var 16 (.ri .i64 b23)), (.vec 27 (.rr 16 x)), (.vec 27 (.rr 16 vi))], 0, []⟩))
def k34_ls12 (F : Nat) : LoopS := ⟨66, [1, 2, 7, 8, 9, 11, 32, 33, 38, 39, 40, 44, 45, 46], [], [1, 2, 7, 8, 9, 32, 33, 38, 39, 40], [], [4, 5], [], [], fun vals mem np killed => match vals, mem, np, killed with
  | [(.int .i64 j4), (.ptr 0 0 0 16), (.int .i64 i4), (.rr 4 wb), (.sl 1 0 q_next7), (.ptr 2 0 0 16), (.agg [(.rr 4 we), (.rr 4 js), (.rr 4 ws), (.rr 4 vs)]), (.int .i64 yt), (.sl 3 0 q_t3817), (.int .i64 jt), (.int .i64 gt), (.rr 4 jl), (.int .i64 wt), (.int .i64 ww)], [(.var 16 (.ri .i64 b23)), (.vec 27 (.rr 16 gl)), (.var 16 (.ri .i64 vt)), (.vec 27 (.rr 16 vi))], 0, [] => .br ((Nat.beq q_next7 (List.length gl)) && ((Nat.beq q_t3817 (List.length vi)) && (k34_l12 F j4 i4 wb we js ws vs yt jt gt jl wt b23 vt vi ww gl).isSome)) (k34_o12 j4 i4 wb we js ws vs yt jt gt jl wt b23 vt vi ((k34_l12 F j4 i4 wb we js ws vs yt jt gt jl wt b23 vt vi ww gl).getD default)) .fail
  | _, _, _, _ => .fail⟩
theorem k34_step12 (F : Nat) (j4 : Int) (i4 : Int) (wb : List (List Int)) (we : List (List Int)) (js : List (List Int)) (ws : List (List Int)) (vs : List (List Int)) (yt : Int) (jt : Int) (gt : Int) (jl : List (List Int)) (wt : Int) (b23 : List Int) (vt : List Int) (vi : List (List Int)) (ww : Int) (gl : List (List Int)) {R : Type} (k : Out → Option R) : stepS tt (k34_tab F) (k34_LS0 F) 70 (k34_ls12 F) (u010 12 (u000 Tryz.f6)) (k34_st12 j4 i4 wb we js ws vs yt jt gt jl wt b23 vt vi ww gl) k = k34_s12 F j4 i4 wb we js ws vs yt jt gt jl wt b23 vt vi R (ww, gl) (fun s => k (.norm (k34_st12 j4 i4 wb we js ws vs yt jt gt jl wt b23 vt vi s.1 s.2))) (fun x => (k34_o12 j4 i4 wb we js ws vs yt jt gt jl wt b23 vt vi x).run k) := by kernel_rfl
theorem k34_iter12 (F : Nat) (j4 : Int) (i4 : Int) (wb : List (List Int)) (we : List (List Int)) (js : List (List Int)) (ws : List (List Int)) (vs : List (List Int)) (yt : Int) (jt : Int) (gt : Int) (jl : List (List Int)) (wt : Int) (b23 : List Int) (vt : List Int) (vi : List (List Int)) {R : Type} (k : Out → Option R) : ∀ (n : Nat) (ww : Int) (gl : List (List Int)), iterS tt (k34_tab F) (k34_LS0 F) 70 (k34_ls12 F) (u010 12 (u000 Tryz.f6)) n (k34_st12 j4 i4 wb we js ws vs yt jt gt jl wt b23 vt vi ww gl) k = loopC (k34_s12 F j4 i4 wb we js ws vs yt jt gt jl wt b23 vt vi) n (ww, gl) (fun x => (k34_o12 j4 i4 wb we js ws vs yt jt gt jl wt b23 vt vi x).run k)
  | 0, ww, gl => rfl
  | n + 1, ww, gl => (u017 tt (k34_tab F) (k34_LS0 F) 70 (k34_ls12 F) (u010 12 (u000 Tryz.f6)) n (k34_st12 j4 i4 wb we js ws vs yt jt gt jl wt b23 vt vi ww gl) k).trans ((k34_step12 F j4 i4 wb we js ws vs yt jt gt jl wt b23 vt vi ww gl (nextK (iterS tt (k34_tab F) (k34_LS0 F) 70 (k34_ls12 F) (u010 12 (u000 Tryz.f6)) n) k)).trans (congrArg (fun kn => k34_s12 F j4 i4 wb we js ws vs yt jt gt jl wt b23 vt vi R (ww, gl) kn _) (funext (fun ⟨ww, gl⟩ => k34_iter12 F j4 i4 wb we js ws vs yt jt gt jl wt b23 vt vi k n ww gl))))
theorem k34_lok12 (F : Nat) : u041 Tryz.prog (u010 12 (u000 Tryz.f6)) (k34_ls12 F) := by
  refine u019 mixed ttok deep (k34_tabok F) (u016 (k34_lsok0 F) 12) (fuel := 70) fun R vals mem np killed k x h => ?_
  simp only [k34_ls12] at h
  split at h
  · rename_i j4 i4 wb q_next7 we js ws vs yt q_t3817 jt gt jl wt ww b23 gl vt vi
    simp only [GT.run] at h
    have hc := (u007 h).1
    replace h := (u007 h).2
    have hg := (u013 hc).1
    replace hc := (u013 hc).2
    obtain rfl := u032 hg
    have hg := (u013 hc).1
    replace hc := (u013 hc).2
    obtain rfl := u032 hg
    refine ⟨F, (k34_iter12 F j4 i4 wb we js ws vs yt jt gt jl wt b23 vt vi k F ww gl).trans ((u020 (k34_s12_nat F j4 i4 wb we js ws vs yt jt gt jl wt b23 vt vi) hc _).trans h)⟩
  · simp only [GT.run] at h
    cases h
noncomputable def k34_LS1 (F : Nat) : LT := (12, k34_ls12 F) :: k34_LS0 F
theorem k34_lsok1 (F : Nat) : u011 Tryz.prog (k34_LS1 F) (u000 Tryz.f6) := u012 k34_keys (k34_lok12 F) (k34_lsok0 F)
def k34_st9 (j4 : Int) (i4 : Int) (wb : List (List Int)) (jc : List (List Int)) (gc : List (List Int)) (wl : List (List Int)) (we : List (List Int)) (vl : Int) (ym : Int) (b17 : List Int) (gh : List (List Int)) (yu : Int) (jm : List (List Int)) : St := ⟨u018 66 0 [1, 2, 7, 8, 9, 32, 33, 38, 39, 40] [(.int .i64 j4), (.ptr 0 0 0 16), (.int .i64 i4), (.rr 4 wb), (.sl 1 0 (List.length jm)), (.agg [(.rr 4 jc), (.rr 4 gc), (.rr 4 wl), (.rr 4 we)]), (.int .i64 vl), (.sl 2 0 (List.length gh)), (.int .i64 ym), (.int .i64 yu)], [(.var 16 (.ri .i64 b17)), (.vec 27 (.rr 16 jm)), (.vec 27 (.rr 16 gh))], 0, []⟩
def k34_o9 (j4 : Int) (i4 : Int) (wb : List (List Int)) (jc : List (List Int)) (gc : List (List Int)) (wl : List (List Int)) (we : List (List Int)) (vl : Int) (ym : Int) (b17 : List Int) (gh : List (List Int)) (x : List (List Int)) : GT := (.out (.exit 2 ⟨u018 66 0 [1, 2, 9, 32, 33] [(.int .i64 j4), (.ptr 0 0 0 16), (.sl 1 0 (List.length x)), (.agg [(.rr 4 jc), (.rr 4 gc), (.rr 4 wl), (.rr 4 we)]), (.int .i64 vl)], [(.var 16 (.ri .i64 b17)), (.vec 27 (.rr 16 x))], 0, []⟩))
def k34_ls9 (F : Nat) : LoopS := ⟨66, [1, 2, 7, 8, 9, 32, 33, 38, 39, 40], [], [1, 2, 9, 32, 33], [], [4, 5], [], [], fun vals mem np killed => match vals, mem, np, killed with
  | [(.int .i64 j4), (.ptr 0 0 0 16), (.int .i64 i4), (.rr 4 wb), (.sl 1 0 q_next7), (.agg [(.rr 4 jc), (.rr 4 gc), (.rr 4 wl), (.rr 4 we)]), (.int .i64 vl), (.sl 2 0 q_t3814), (.int .i64 ym), (.int .i64 yu)], [(.var 16 (.ri .i64 b17)), (.vec 27 (.rr 16 jm)), (.vec 27 (.rr 16 gh))], 0, [] => .br ((Nat.beq q_next7 (List.length jm)) && ((Nat.beq q_t3814 (List.length gh)) && (k34_l9 F j4 i4 wb jc gc wl we vl ym b17 gh yu jm).isSome)) (k34_o9 j4 i4 wb jc gc wl we vl ym b17 gh ((k34_l9 F j4 i4 wb jc gc wl we vl ym b17 gh yu jm).getD default)) .fail
  | _, _, _, _ => .fail⟩
theorem k34_step9 (F : Nat) (j4 : Int) (i4 : Int) (wb : List (List Int)) (jc : List (List Int)) (gc : List (List Int)) (wl : List (List Int)) (we : List (List Int)) (vl : Int) (ym : Int) (b17 : List Int) (gh : List (List Int)) (yu : Int) (jm : List (List Int)) {R : Type} (k : Out → Option R) : stepS tt (k34_tab F) (k34_LS1 F) 70 (k34_ls9 F) (u010 9 (u000 Tryz.f6)) (k34_st9 j4 i4 wb jc gc wl we vl ym b17 gh yu jm) k = k34_s9 F j4 i4 wb jc gc wl we vl ym b17 gh R (yu, jm) (fun s => k (.norm (k34_st9 j4 i4 wb jc gc wl we vl ym b17 gh s.1 s.2))) (fun x => (k34_o9 j4 i4 wb jc gc wl we vl ym b17 gh x).run k) := by kernel_rfl
theorem k34_iter9 (F : Nat) (j4 : Int) (i4 : Int) (wb : List (List Int)) (jc : List (List Int)) (gc : List (List Int)) (wl : List (List Int)) (we : List (List Int)) (vl : Int) (ym : Int) (b17 : List Int) (gh : List (List Int)) {R : Type} (k : Out → Option R) : ∀ (n : Nat) (yu : Int) (jm : List (List Int)), iterS tt (k34_tab F) (k34_LS1 F) 70 (k34_ls9 F) (u010 9 (u000 Tryz.f6)) n (k34_st9 j4 i4 wb jc gc wl we vl ym b17 gh yu jm) k = loopC (k34_s9 F j4 i4 wb jc gc wl we vl ym b17 gh) n (yu, jm) (fun x => (k34_o9 j4 i4 wb jc gc wl we vl ym b17 gh x).run k)
  | 0, yu, jm => rfl
  | n + 1, yu, jm => (u017 tt (k34_tab F) (k34_LS1 F) 70 (k34_ls9 F) (u010 9 (u000 Tryz.f6)) n (k34_st9 j4 i4 wb jc gc wl we vl ym b17 gh yu jm) k).trans ((k34_step9 F j4 i4 wb jc gc wl we vl ym b17 gh yu jm (nextK (iterS tt (k34_tab F) (k34_LS1 F) 70 (k34_ls9 F) (u010 9 (u000 Tryz.f6)) n) k)).trans (congrArg (fun kn => k34_s9 F j4 i4 wb jc gc wl we vl ym b17 gh R (yu, jm) kn _) (funext (fun ⟨yu, jm⟩ => k34_iter9 F j4 i4 wb jc gc wl we vl ym b17 gh k n yu jm))))
theorem k34_lok9 (F : Nat) : u041 Tryz.prog (u010 9 (u000 Tryz.f6)) (k34_ls9 F) := by
  refine u019 mixed ttok deep (k34_tabok F) (u016 (k34_lsok1 F) 9) (fuel := 70) fun R vals mem np killed k x h => ?_
  simp only [k34_ls9] at h
  split at h
  · rename_i j4 i4 wb q_next7 jc gc wl we vl q_t3814 ym yu b17 jm gh
    simp only [GT.run] at h
    have hc := (u007 h).1
    replace h := (u007 h).2
    have hg := (u013 hc).1
    replace hc := (u013 hc).2
    obtain rfl := u032 hg
    have hg := (u013 hc).1
    replace hc := (u013 hc).2
    obtain rfl := u032 hg
    refine ⟨F, (k34_iter9 F j4 i4 wb jc gc wl we vl ym b17 gh k F yu jm).trans ((u020 (k34_s9_nat F j4 i4 wb jc gc wl we vl ym b17 gh) hc _).trans h)⟩
  · simp only [GT.run] at h
    cases h
noncomputable def k34_LS2 (F : Nat) : LT := (9, k34_ls9 F) :: k34_LS1 F
theorem k34_lsok2 (F : Nat) : u011 Tryz.prog (k34_LS2 F) (u000 Tryz.f6) := u012 k34_keys (k34_lok9 F) (k34_lsok1 F)
def k34_st5 (j4 : Int) (gm : List (List Int)) (wm : List (List Int)) (jc : List (List Int)) (gc : List (List Int)) (b11 : List Int) (vm : Int) (w9 : List (List Int)) : St := ⟨u018 66 0 [1, 2, 6, 32, 33] [(.int .i64 j4), (.ptr 0 0 0 16), (.sl 1 0 (List.length w9)), (.agg [(.rr 4 gm), (.rr 4 wm), (.rr 4 jc), (.rr 4 gc)]), (.int .i64 vm)], [(.var 16 (.ri .i64 b11)), (.vec 27 (.rr 16 w9))], 0, []⟩
def k34_o5 (j4 : Int) (gm : List (List Int)) (wm : List (List Int)) (jc : List (List Int)) (gc : List (List Int)) (b11 : List Int) (x : List (List Int)) : GT := (.out (.exit 0 ⟨u018 66 0 [2, 6] [(.ptr 0 0 0 16), (.sl 1 0 (List.length x))], [(.var 16 (.ri .i64 b11)), (.vec 27 (.rr 16 x))], 0, []⟩))
def k34_ls5 (F : Nat) : LoopS := ⟨66, [1, 2, 6, 32, 33], [], [2, 6], [], [4, 5], [], [], fun vals mem np killed => match vals, mem, np, killed with
  | [(.int .i64 j4), (.ptr 0 0 0 16), (.sl 1 0 q_out5), (.agg [(.rr 4 gm), (.rr 4 wm), (.rr 4 jc), (.rr 4 gc)]), (.int .i64 vm)], [(.var 16 (.ri .i64 b11)), (.vec 27 (.rr 16 w9))], 0, [] => .br ((Nat.beq q_out5 (List.length w9)) && (k34_l5 F j4 gm wm jc gc b11 vm w9).isSome) (k34_o5 j4 gm wm jc gc b11 ((k34_l5 F j4 gm wm jc gc b11 vm w9).getD default)) .fail
  | _, _, _, _ => .fail⟩
theorem k34_step5 (F : Nat) (j4 : Int) (gm : List (List Int)) (wm : List (List Int)) (jc : List (List Int)) (gc : List (List Int)) (b11 : List Int) (vm : Int) (w9 : List (List Int)) {R : Type} (k : Out → Option R) : stepS tt (k34_tab F) (k34_LS2 F) 70 (k34_ls5 F) (u010 5 (u000 Tryz.f6)) (k34_st5 j4 gm wm jc gc b11 vm w9) k = k34_s5 F j4 gm wm jc gc b11 R (vm, w9) (fun s => k (.norm (k34_st5 j4 gm wm jc gc b11 s.1 s.2))) (fun x => (k34_o5 j4 gm wm jc gc b11 x).run k) := by kernel_rfl
theorem k34_iter5 (F : Nat) (j4 : Int) (gm : List (List Int)) (wm : List (List Int)) (jc : List (List Int)) (gc : List (List Int)) (b11 : List Int) {R : Type} (k : Out → Option R) : ∀ (n : Nat) (vm : Int) (w9 : List (List Int)), iterS tt (k34_tab F) (k34_LS2 F) 70 (k34_ls5 F) (u010 5 (u000 Tryz.f6)) n (k34_st5 j4 gm wm jc gc b11 vm w9) k = loopC (k34_s5 F j4 gm wm jc gc b11) n (vm, w9) (fun x => (k34_o5 j4 gm wm jc gc b11 x).run k)
  | 0, vm, w9 => rfl
  | n + 1, vm, w9 => (u017 tt (k34_tab F) (k34_LS2 F) 70 (k34_ls5 F) (u010 5 (u000 Tryz.f6)) n (k34_st5 j4 gm wm jc gc b11 vm w9) k).trans ((k34_step5 F j4 gm wm jc gc b11 vm w9 (nextK (iterS tt (k34_tab F) (k34_LS2 F) 70 (k34_ls5 F) (u010 5 (u000 Tryz.f6)) n) k)).trans (congrArg (fun kn => k34_s5 F j4 gm wm jc gc b11 R (vm, w9) kn _) (funext (fun ⟨vm, w9⟩ => k34_iter5 F j4 gm wm jc gc b11 k n vm w9))))
theorem k34_lok5 (F : Nat) : u041 Tryz.prog (u010 5 (u000 Tryz.f6)) (k34_ls5 F) := by
  refine u019 mixed ttok deep (k34_tabok F) (u016 (k34_lsok2 F) 5) (fuel := 70) fun R vals mem np killed k x h => ?_
  simp only [k34_ls5] at h
  split at h
  · rename_i j4 q_out5 gm wm jc gc vm b11 w9
    simp only [GT.run] at h
    have hc := (u007 h).1
    replace h := (u007 h).2
    have hg := (u013 hc).1
    replace hc := (u013 hc).2
    obtain rfl := u032 hg
    refine ⟨F, (k34_iter5 F j4 gm wm jc gc b11 k F vm w9).trans ((u020 (k34_s5_nat F j4 gm wm jc gc b11) hc _).trans h)⟩
  · simp only [GT.run] at h
    cases h
noncomputable def k34_LS3 (F : Nat) : LT := (5, k34_ls5 F) :: k34_LS2 F
theorem k34_lsok3 (F : Nat) : u011 Tryz.prog (k34_LS3 F) (u000 Tryz.f6) := u012 k34_keys (k34_lok5 F) (k34_lsok2 F)
theorem k34_run (F : Nat) (b0 : List Int) (j1 : Int) : runS tt (k34_tab F) (k34_LS3 F) [⟨4, 27, (.rr 16 ([] : List (List Int)))⟩] [] Tryz.f6 (u000 Tryz.f6) 70 [(.ints 16 b0), (.int .i64 j1)] [] = k34_c _ F b0 j1 (fun r => some ⟨(.tup [(.sl 0 0 r.1), (.bool r.2.1)]), [(.vec 27 (.rr 16 r.2.2))], []⟩) := by kernel_rfl
def k34_ent (F : Nat) : Ent := ⟨[], .fresh, fun args mem => match args, mem with
  | [(.ints 16 b0), (.int .i64 j1)], [] => some ((k34_p F b0 j1).isSome, ⟨(.tup [(.sl 0 0 ((k34_p F b0 j1).getD default).1), (.bool ((k34_p F b0 j1).getD default).2.1)]), [(.vec 27 (.rr 16 ((k34_p F b0 j1).getD default).2.2))], []⟩)
  | _, _ => none⟩
theorem k34_fok : FunOK Tryz.prog 6 := funOK Tryz.func6 (by kernel_rfl) rfl
theorem k34_meets (F : Nat) : Meets Tryz.prog 6 (k34_ent F) := by
  refine u002 mixed ttok deep (k34_tabok F) Tryz.func6 (u009 rfl) (k34_lsok3 F) fun args mem hfit ret h => ?_
  clear hfit
  simp only [k34_ent] at h
  split at h
  · rename_i b0 j1
    simp only [Option.some.injEq, Prod.mk.injEq] at h
    obtain ⟨hc, rfl⟩ := h
    exact ⟨[⟨4, 27, (.rr 16 ([] : List (List Int)))⟩], [], 70, _, (k34_run F b0 j1).trans ((k34_cp _ F b0 j1 _).trans (u014 hc _)), rfl, rfl, rfl⟩
  · cases h
end Go.Proofs.YtabfliifleonaakGreat
