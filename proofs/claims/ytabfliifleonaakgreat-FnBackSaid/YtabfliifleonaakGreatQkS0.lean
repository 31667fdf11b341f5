/-
Pure functions and what the code of them does, by program; without conditions.
-/
import Derived.Test.YtabfliifleonaakGreatQkP0
import Derived.Test.YtabfliifleonaakGreatQkA
namespace Go.Proofs.YtabfliifleonaakGreat
open Go Go.Lv Go.Lv.P Go.Proofs
set_option linter.unusedVariables false
set_option linter.unusedSimpArgs false
set_option maxRecDepth 100000
noncomputable def k128_tab (F : Nat) : Tab := []
theorem k128_tabok (F : Nat) : TabOK Tryz.prog (k128_tab F) := u015
noncomputable def k128_LS0 (F : Nat) : LT := []
theorem k128_lsok0 (F : Nat) : u011 Tryz.prog (k128_LS0 F) (u000 Tryz.f4) := u005
theorem k128_run (F : Nat) (j2 : List Int) : runS tt (k128_tab F) (k128_LS0 F) [] [] Tryz.f4 (u000 Tryz.f4) 70 [(.ri .u8 j2)] [] = k128_c _ j2 (fun r => some ⟨(.bool r), [], []⟩) := by kernel_rfl
def k128_ent (F : Nat) : Ent := ⟨[], .quiet, fun args mem => match args, mem with
  | [(.ri .u8 j2)], [] => some (true, ⟨(.bool (k128_v j2)), [], []⟩)
  | _, _ => none⟩
theorem k128_fok : FunOK Tryz.prog 4 := funOK Tryz.func4 (by kernel_rfl) rfl
theorem k128_meets (F : Nat) : Meets Tryz.prog 4 (k128_ent F) := by
  refine u002 mixed ttok deep (k128_tabok F) Tryz.func4 (u009 rfl) (k128_lsok0 F) fun args mem hfit ret h => ?_
  clear hfit
  simp only [k128_ent] at h
  split at h
  · rename_i j2
    simp only [Option.some.injEq, Prod.mk.injEq] at h
    obtain ⟨hc, rfl⟩ := h
    exact ⟨[], [], 70, _, (k128_run F j2).trans (k128_cv _ j2 _), rfl, rfl, rfl⟩
  · cases h
noncomputable def k66_tab (F : Nat) : Tab := []
theorem k66_tabok (F : Nat) : TabOK Tryz.prog (k66_tab F) := u015
noncomputable def k66_LS0 (F : Nat) : LT := []
theorem k66_lsok0 (F : Nat) : u011 Tryz.prog (k66_LS0 F) (u000 Tryz.f76) := u005
theorem k66_run (F : Nat) (c3 : List Int) (c4 : Int) (c5 : Int) : runS tt (k66_tab F) (k66_LS0 F) [] [] Tryz.f76 (u000 Tryz.f76) 70 [(.ptr 0 0 0 3)] [(.var 3 (.rv [(.ri .u8 c3), (.int .i64 c4), (.int .u64 c5)]))] = k66_c _ c3 c4 c5 (fun r => some ⟨(.int .i64 r.1), [(.var 3 (.rv [(.ri .u8 c3), (.int .i64 r.2.1), (.int .u64 r.2.2)]))], []⟩) := by kernel_rfl
def k66_ent (F : Nat) : Ent := ⟨[], .loud, fun args mem => match args, mem with
  | [(.ptr 0 0 0 3)], [(.var 3 (.rv [(.ri .u8 c3), (.int .i64 c4), (.int .u64 c5)]))] => some ((k66_p c3 c4 c5).isSome, ⟨(.int .i64 ((k66_p c3 c4 c5).getD default).1), [(.var 3 (.rv [(.ri .u8 c3), (.int .i64 ((k66_p c3 c4 c5).getD default).2.1), (.int .u64 ((k66_p c3 c4 c5).getD default).2.2)]))], []⟩)
  | _, _ => none⟩
theorem k66_fok : FunOK Tryz.prog 76 := funOK Tryz.func76 (by kernel_rfl) rfl
theorem k66_meets (F : Nat) : Meets Tryz.prog 76 (k66_ent F) := by
  refine u002 mixed ttok deep (k66_tabok F) Tryz.func76 (u009 rfl) (k66_lsok0 F) fun args mem hfit ret h => ?_
  clear hfit
  simp only [k66_ent] at h
  split at h
  · rename_i c3 c4 c5
    simp only [Option.some.injEq, Prod.mk.injEq] at h
    obtain ⟨hc, rfl⟩ := h
    exact ⟨[], [], 70, _, (k66_run F c3 c4 c5).trans ((k66_cp _ c3 c4 c5 _).trans (u014 hc _)), rfl, rfl, rfl⟩
  · cases h
noncomputable def k67_tab (F : Nat) : Tab := [(76, (k66_ent F))]
theorem k67_tabok (F : Nat) : TabOK Tryz.prog (k67_tab F) := (u001 (k66_meets F) k66_fok u015)
noncomputable def k67_LS0 (F : Nat) : LT := []
theorem k67_lsok0 (F : Nat) : u011 Tryz.prog (k67_LS0 F) (u000 Tryz.f46) := u005
theorem k67_run (F : Nat) (n3 : Int) (c4 : List Int) (c5 : Int) (c6 : Int) : runS tt (k67_tab F) (k67_LS0 F) [] [] Tryz.f46 (u000 Tryz.f46) 70 [(.ptr 0 0 0 3), (.int .i64 n3)] [(.var 3 (.rv [(.ri .u8 c4), (.int .i64 c5), (.int .u64 c6)]))] = k67_c _ n3 c4 c5 c6 (fun r => some ⟨(.int .i64 r.1), [(.var 3 (.rv [(.ri .u8 c4), (.int .i64 r.2.1), (.int .u64 r.2.2)]))], []⟩) := by kernel_rfl
def k67_ent (F : Nat) : Ent := ⟨[], .loud, fun args mem => match args, mem with
  | [(.ptr 0 0 0 3), (.int .i64 n3)], [(.var 3 (.rv [(.ri .u8 c4), (.int .i64 c5), (.int .u64 c6)]))] => some ((k67_p n3 c4 c5 c6).isSome, ⟨(.int .i64 ((k67_p n3 c4 c5 c6).getD default).1), [(.var 3 (.rv [(.ri .u8 c4), (.int .i64 ((k67_p n3 c4 c5 c6).getD default).2.1), (.int .u64 ((k67_p n3 c4 c5 c6).getD default).2.2)]))], []⟩)
  | _, _ => none⟩
theorem k67_fok : FunOK Tryz.prog 46 := funOK Tryz.func46 (by kernel_rfl) rfl
theorem k67_meets (F : Nat) : Meets Tryz.prog 46 (k67_ent F) := by
  refine u002 mixed ttok deep (k67_tabok F) Tryz.func46 (u009 rfl) (k67_lsok0 F) fun args mem hfit ret h => ?_
  clear hfit
  simp only [k67_ent] at h
  split at h
  · rename_i n3 c4 c5 c6
    simp only [Option.some.injEq, Prod.mk.injEq] at h
    obtain ⟨hc, rfl⟩ := h
    exact ⟨[], [], 70, _, (k67_run F n3 c4 c5 c6).trans ((k67_cp _ n3 c4 c5 c6 _).trans (u014 hc _)), rfl, rfl, rfl⟩
  · cases h
noncomputable def k73_tab (F : Nat) : Tab := [(46, (k67_ent F))]
theorem k73_tabok (F : Nat) : TabOK Tryz.prog (k73_tab F) := (u001 (k67_meets F) k67_fok u015)
noncomputable def k73_LS0 (F : Nat) : LT := []
theorem k73_lsok0 (F : Nat) : u011 Tryz.prog (k73_LS0 F) (u000 Tryz.f74) := u005
theorem k73_run (F : Nat) (n3 : Int) (c4 : List Int) (c5 : Int) (c6 : Int) : runS tt (k73_tab F) (k73_LS0 F) [] [] Tryz.f74 (u000 Tryz.f74) 70 [(.ptr 0 0 0 3), (.int .i64 n3)] [(.var 3 (.rv [(.ri .u8 c4), (.int .i64 c5), (.int .u64 c6)]))] = k73_c _ n3 c4 c5 c6 (fun r => some ⟨(.bool r.1), [(.var 3 (.rv [(.ri .u8 c4), (.int .i64 r.2.1), (.int .u64 r.2.2)]))], []⟩) := by kernel_rfl
def k73_ent (F : Nat) : Ent := ⟨[], .loud, fun args mem => match args, mem with
  | [(.ptr 0 0 0 3), (.int .i64 n3)], [(.var 3 (.rv [(.ri .u8 c4), (.int .i64 c5), (.int .u64 c6)]))] => some ((k73_p n3 c4 c5 c6).isSome, ⟨(.bool ((k73_p n3 c4 c5 c6).getD default).1), [(.var 3 (.rv [(.ri .u8 c4), (.int .i64 ((k73_p n3 c4 c5 c6).getD default).2.1), (.int .u64 ((k73_p n3 c4 c5 c6).getD default).2.2)]))], []⟩)
  | _, _ => none⟩
theorem k73_fok : FunOK Tryz.prog 74 := funOK Tryz.func74 (by kernel_rfl) rfl
theorem k73_meets (F : Nat) : Meets Tryz.prog 74 (k73_ent F) := by
  refine u002 mixed ttok deep (k73_tabok F) Tryz.func74 (u009 rfl) (k73_lsok0 F) fun args mem hfit ret h => ?_
  clear hfit
  simp only [k73_ent] at h
  split at h
  · rename_i n3 c4 c5 c6
    simp only [Option.some.injEq, Prod.mk.injEq] at h
    obtain ⟨hc, rfl⟩ := h
    exact ⟨[], [], 70, _, (k73_run F n3 c4 c5 c6).trans ((k73_cp _ n3 c4 c5 c6 _).trans (u014 hc _)), rfl, rfl, rfl⟩
  · cases h
noncomputable def k52_tab (F : Nat) : Tab := [(46, (k67_ent F))]
theorem k52_tabok (F : Nat) : TabOK Tryz.prog (k52_tab F) := (u001 (k67_meets F) k67_fok u015)
noncomputable def k52_LS0 (F : Nat) : LT := []
theorem k52_lsok0 (F : Nat) : u011 Tryz.prog (k52_LS0 F) (u000 Tryz.f54) := u005
theorem k52_run (F : Nat) (list3 : List Int) (c4 : List Int) (c5 : Int) (c6 : Int) : runS tt (k52_tab F) (k52_LS0 F) [] [] Tryz.f54 (u000 Tryz.f54) 70 [(.ptr 0 0 0 3), (.ri .i64 list3)] [(.var 3 (.rv [(.ri .u8 c4), (.int .i64 c5), (.int .u64 c6)]))] = k52_c _ list3 c4 c5 c6 (fun r => some ⟨(.int .i64 r.1), [(.var 3 (.rv [(.ri .u8 c4), (.int .i64 r.2.1), (.int .u64 r.2.2)]))], []⟩) := by kernel_rfl
def k52_ent (F : Nat) : Ent := ⟨[], .loud, fun args mem => match args, mem with
  | [(.ptr 0 0 0 3), (.ri .i64 list3)], [(.var 3 (.rv [(.ri .u8 c4), (.int .i64 c5), (.int .u64 c6)]))] => some ((k52_p list3 c4 c5 c6).isSome, ⟨(.int .i64 ((k52_p list3 c4 c5 c6).getD default).1), [(.var 3 (.rv [(.ri .u8 c4), (.int .i64 ((k52_p list3 c4 c5 c6).getD default).2.1), (.int .u64 ((k52_p list3 c4 c5 c6).getD default).2.2)]))], []⟩)
  | _, _ => none⟩
theorem k52_fok : FunOK Tryz.prog 54 := funOK Tryz.func54 (by kernel_rfl) rfl
theorem k52_meets (F : Nat) : Meets Tryz.prog 54 (k52_ent F) := by
  refine u002 mixed ttok deep (k52_tabok F) Tryz.func54 (u009 rfl) (k52_lsok0 F) fun args mem hfit ret h => ?_
  clear hfit
  simp only [k52_ent] at h
  split at h
  · rename_i list3 c4 c5 c6
    simp only [Option.some.injEq, Prod.mk.injEq] at h
    obtain ⟨hc, rfl⟩ := h
    exact ⟨[], [], 70, _, (k52_run F list3 c4 c5 c6).trans ((k52_cp _ list3 c4 c5 c6 _).trans (u014 hc _)), rfl, rfl, rfl⟩
  · cases h
noncomputable def k69_tab (F : Nat) : Tab := [(54, (k52_ent F))]
theorem k69_tabok (F : Nat) : TabOK Tryz.prog (k69_tab F) := (u001 (k52_meets F) k52_fok u015)
noncomputable def k69_LS0 (F : Nat) : LT := []
theorem k69_lsok0 (F : Nat) : u011 Tryz.prog (k69_LS0 F) (u000 Tryz.f95) := u005
theorem k69_run (F : Nat) (c3 : List Int) (c4 : Int) (c5 : Int) : runS tt (k69_tab F) (k69_LS0 F) [] [] Tryz.f95 (u000 Tryz.f95) 70 [(.ptr 0 0 0 3)] [(.var 3 (.rv [(.ri .u8 c3), (.int .i64 c4), (.int .u64 c5)]))] = k69_c _ c3 c4 c5 (fun r => some ⟨(.int .i64 r.1), [(.var 3 (.rv [(.ri .u8 c3), (.int .i64 r.2.1), (.int .u64 r.2.2)]))], []⟩) := by kernel_rfl
def k69_ent (F : Nat) : Ent := ⟨[], .loud, fun args mem => match args, mem with
  | [(.ptr 0 0 0 3)], [(.var 3 (.rv [(.ri .u8 c3), (.int .i64 c4), (.int .u64 c5)]))] => some ((k69_p c3 c4 c5).isSome, ⟨(.int .i64 ((k69_p c3 c4 c5).getD default).1), [(.var 3 (.rv [(.ri .u8 c3), (.int .i64 ((k69_p c3 c4 c5).getD default).2.1), (.int .u64 ((k69_p c3 c4 c5).getD default).2.2)]))], []⟩)
  | _, _ => none⟩
theorem k69_fok : FunOK Tryz.prog 95 := funOK Tryz.func95 (by kernel_rfl) rfl
theorem k69_meets (F : Nat) : Meets Tryz.prog 95 (k69_ent F) := by
  refine u002 mixed ttok deep (k69_tabok F) Tryz.func95 (u009 rfl) (k69_lsok0 F) fun args mem hfit ret h => ?_
  clear hfit
  simp only [k69_ent] at h
  split at h
  · rename_i c3 c4 c5
    simp only [Option.some.injEq, Prod.mk.injEq] at h
    obtain ⟨hc, rfl⟩ := h
    exact ⟨[], [], 70, _, (k69_run F c3 c4 c5).trans ((k69_cp _ c3 c4 c5 _).trans (u014 hc _)), rfl, rfl, rfl⟩
  · cases h
noncomputable def k53_tab (F : Nat) : Tab := [(74, (k73_ent F)), (95, (k69_ent F)), (46, (k67_ent F)), (54, (k52_ent F))]
theorem k53_tabok (F : Nat) : TabOK Tryz.prog (k53_tab F) := (u001 (k73_meets F) k73_fok (u001 (k69_meets F) k69_fok (u001 (k67_meets F) k67_fok (u001 (k52_meets F) k52_fok u015))))
noncomputable def k53_LS0 (F : Nat) : LT := []
theorem k53_lsok0 (F : Nat) : u011 Tryz.prog (k53_LS0 F) (u000 Tryz.f72) := u005
theorem k53_keys : u059 (u000 Tryz.f72) = true := by kernel_rfl
def k53_st6 (vd : Bool) (wa : Bool) (r11 : Int) (c13 : List Int) (k12 : Int) (c14 : Int) (c15 : Int) (b17 : List Int) : St := ⟨u018 110 0 [0, 2, 3, 4, 5, 6, 7] [(.ptr 0 0 0 3), (.ptr 1 0 0 16), (.ptr 2 0 0 16), (.bool vd), (.bool wa), (.int .i64 r11), (.int .i64 k12)], [(.var 3 (.rv [(.ri .u8 c13), (.int .i64 c14), (.int .u64 c15)])), (.var 16 (.ri .i64 [(0 : Int), (0 : Int), (0 : Int), (0 : Int), (0 : Int), (0 : Int), (0 : Int), (0 : Int), (0 : Int), (0 : Int), (0 : Int), (0 : Int), (0 : Int), (0 : Int), (0 : Int), (0 : Int)])), (.var 16 (.ri .i64 b17))], 1, []⟩
def k53_o6 (vd : Bool) (wa : Bool) (r11 : Int) (c13 : List Int) (x : Int × Int × List Int) : GT := (.out (.exit 2 ⟨u018 110 0 [0, 2, 3, 4, 5, 6] [(.ptr 0 0 0 3), (.ptr 1 0 0 16), (.ptr 2 0 0 16), (.bool vd), (.bool wa), (.int .i64 r11)], [(.var 3 (.rv [(.ri .u8 c13), (.int .i64 x.1), (.int .u64 x.2.1)])), (.var 16 (.ri .i64 [(0 : Int), (0 : Int), (0 : Int), (0 : Int), (0 : Int), (0 : Int), (0 : Int), (0 : Int), (0 : Int), (0 : Int), (0 : Int), (0 : Int), (0 : Int), (0 : Int), (0 : Int), (0 : Int)])), (.var 16 (.ri .i64 x.2.2))], 1, []⟩))
def k53_ls6 (F : Nat) : LoopS := ⟨110, [0, 2, 3, 4, 5, 6, 7], [], [0, 2, 3, 4, 5, 6], [], [2], [], [], fun vals mem np killed => match vals, mem, np, killed with
  | [(.ptr 0 0 0 3), (.ptr 1 0 0 16), (.ptr 2 0 0 16), (.bool vd), (.bool wa), (.int .i64 r11), (.int .i64 k12)], [(.var 3 (.rv [(.ri .u8 c13), (.int .i64 c14), (.int .u64 c15)])), (.var 16 (.ri .i64 q_t216)), (.var 16 (.ri .i64 b17))], 1, [] => .br ((q_t216 == ([(0 : Int), (0 : Int), (0 : Int), (0 : Int), (0 : Int), (0 : Int), (0 : Int), (0 : Int), (0 : Int), (0 : Int), (0 : Int), (0 : Int), (0 : Int), (0 : Int), (0 : Int), (0 : Int)] : List Int)) && (k53_l6 F vd wa r11 c13 k12 c14 c15 b17).isSome) (k53_o6 vd wa r11 c13 ((k53_l6 F vd wa r11 c13 k12 c14 c15 b17).getD default)) .fail
  | _, _, _, _ => .fail⟩
theorem k53_step6 (F : Nat) (vd : Bool) (wa : Bool) (r11 : Int) (c13 : List Int) (k12 : Int) (c14 : Int) (c15 : Int) (b17 : List Int) {R : Type} (k : Out → Option R) : stepS tt (k53_tab F) (k53_LS0 F) 70 (k53_ls6 F) (u010 6 (u000 Tryz.f72)) (k53_st6 vd wa r11 c13 k12 c14 c15 b17) k = k53_s6 F vd wa r11 c13 R (k12, c14, c15, b17) (fun s => k (.norm (k53_st6 vd wa r11 c13 s.1 s.2.1 s.2.2.1 s.2.2.2))) (fun x => (k53_o6 vd wa r11 c13 x).run k) := by kernel_rfl
theorem k53_iter6 (F : Nat) (vd : Bool) (wa : Bool) (r11 : Int) (c13 : List Int) {R : Type} (k : Out → Option R) : ∀ (n : Nat) (k12 : Int) (c14 : Int) (c15 : Int) (b17 : List Int), iterS tt (k53_tab F) (k53_LS0 F) 70 (k53_ls6 F) (u010 6 (u000 Tryz.f72)) n (k53_st6 vd wa r11 c13 k12 c14 c15 b17) k = loopC (k53_s6 F vd wa r11 c13) n (k12, c14, c15, b17) (fun x => (k53_o6 vd wa r11 c13 x).run k)
  | 0, k12, c14, c15, b17 => rfl
  | n + 1, k12, c14, c15, b17 => (u017 tt (k53_tab F) (k53_LS0 F) 70 (k53_ls6 F) (u010 6 (u000 Tryz.f72)) n (k53_st6 vd wa r11 c13 k12 c14 c15 b17) k).trans ((k53_step6 F vd wa r11 c13 k12 c14 c15 b17 (nextK (iterS tt (k53_tab F) (k53_LS0 F) 70 (k53_ls6 F) (u010 6 (u000 Tryz.f72)) n) k)).trans (congrArg (fun kn => k53_s6 F vd wa r11 c13 R (k12, c14, c15, b17) kn _) (funext (fun ⟨k12, c14, c15, b17⟩ => k53_iter6 F vd wa r11 c13 k n k12 c14 c15 b17))))
theorem k53_lok6 (F : Nat) : u041 Tryz.prog (u010 6 (u000 Tryz.f72)) (k53_ls6 F) := by
  refine u019 mixed ttok deep (k53_tabok F) (u016 (k53_lsok0 F) 6) (fuel := 70) fun R vals mem np killed k x h => ?_
  simp only [k53_ls6] at h
  split at h
  · rename_i vd wa r11 k12 c13 c14 c15 q_t216 b17
    simp only [GT.run] at h
    have hc := (u007 h).1
    replace h := (u007 h).2
    have hg := (u013 hc).1
    replace hc := (u013 hc).2
    obtain rfl := u208 hg
    refine ⟨F, (k53_iter6 F vd wa r11 c13 k F k12 c14 c15 b17).trans ((u020 (k53_s6_nat F vd wa r11 c13) hc _).trans h)⟩
  · simp only [GT.run] at h
    cases h
noncomputable def k53_LS1 (F : Nat) : LT := (6, k53_ls6 F) :: k53_LS0 F
theorem k53_lsok1 (F : Nat) : u011 Tryz.prog (k53_LS1 F) (u000 Tryz.f72) := u012 k53_keys (k53_lok6 F) (k53_lsok0 F)
def k53_st3 (vd : Bool) (wa : Bool) (c12 : List Int) (r11 : Int) (c13 : Int) (c14 : Int) (b16 : List Int) : St := ⟨u018 110 0 [0, 2, 3, 4, 5, 6] [(.ptr 0 0 0 3), (.ptr 1 0 0 16), (.ptr 2 0 0 16), (.bool vd), (.bool wa), (.int .i64 r11)], [(.var 3 (.rv [(.ri .u8 c12), (.int .i64 c13), (.int .u64 c14)])), (.var 16 (.ri .i64 [(0 : Int), (0 : Int), (0 : Int), (0 : Int), (0 : Int), (0 : Int), (0 : Int), (0 : Int), (0 : Int), (0 : Int), (0 : Int), (0 : Int), (0 : Int), (0 : Int), (0 : Int), (0 : Int)])), (.var 16 (.ri .i64 b16))], 1, []⟩
def k53_o3 (vd : Bool) (wa : Bool) (c12 : List Int) (x : Int × Int × List Int) : GT := (.out (.exit 0 ⟨u018 110 0 [0, 2, 3] [(.ptr 0 0 0 3), (.ptr 1 0 0 16), (.ptr 2 0 0 16)], [(.var 3 (.rv [(.ri .u8 c12), (.int .i64 x.1), (.int .u64 x.2.1)])), (.var 16 (.ri .i64 [(0 : Int), (0 : Int), (0 : Int), (0 : Int), (0 : Int), (0 : Int), (0 : Int), (0 : Int), (0 : Int), (0 : Int), (0 : Int), (0 : Int), (0 : Int), (0 : Int), (0 : Int), (0 : Int)])), (.var 16 (.ri .i64 x.2.2))], 1, []⟩))
def k53_ls3 (F : Nat) : LoopS := ⟨110, [0, 2, 3, 4, 5, 6], [], [0, 2, 3], [], [2], [], [], fun vals mem np killed => match vals, mem, np, killed with
  | [(.ptr 0 0 0 3), (.ptr 1 0 0 16), (.ptr 2 0 0 16), (.bool vd), (.bool wa), (.int .i64 r11)], [(.var 3 (.rv [(.ri .u8 c12), (.int .i64 c13), (.int .u64 c14)])), (.var 16 (.ri .i64 q_t215)), (.var 16 (.ri .i64 b16))], 1, [] => .br ((q_t215 == ([(0 : Int), (0 : Int), (0 : Int), (0 : Int), (0 : Int), (0 : Int), (0 : Int), (0 : Int), (0 : Int), (0 : Int), (0 : Int), (0 : Int), (0 : Int), (0 : Int), (0 : Int), (0 : Int)] : List Int)) && (k53_l3 F vd wa c12 r11 c13 c14 b16).isSome) (k53_o3 vd wa c12 ((k53_l3 F vd wa c12 r11 c13 c14 b16).getD default)) .fail
  | _, _, _, _ => .fail⟩
theorem k53_step3 (F : Nat) (vd : Bool) (wa : Bool) (c12 : List Int) (r11 : Int) (c13 : Int) (c14 : Int) (b16 : List Int) {R : Type} (k : Out → Option R) : stepS tt (k53_tab F) (k53_LS1 F) 70 (k53_ls3 F) (u010 3 (u000 Tryz.f72)) (k53_st3 vd wa c12 r11 c13 c14 b16) k = k53_s3 F vd wa c12 R (r11, c13, c14, b16) (fun s => k (.norm (k53_st3 vd wa c12 s.1 s.2.1 s.2.2.1 s.2.2.2))) (fun x => (k53_o3 vd wa c12 x).run k) := by kernel_rfl
theorem k53_iter3 (F : Nat) (vd : Bool) (wa : Bool) (c12 : List Int) {R : Type} (k : Out → Option R) : ∀ (n : Nat) (r11 : Int) (c13 : Int) (c14 : Int) (b16 : List Int), iterS tt (k53_tab F) (k53_LS1 F) 70 (k53_ls3 F) (u010 3 (u000 Tryz.f72)) n (k53_st3 vd wa c12 r11 c13 c14 b16) k = loopC (k53_s3 F vd wa c12) n (r11, c13, c14, b16) (fun x => (k53_o3 vd wa c12 x).run k)
  | 0, r11, c13, c14, b16 => rfl
  | n + 1, r11, c13, c14, b16 => (u017 tt (k53_tab F) (k53_LS1 F) 70 (k53_ls3 F) (u010 3 (u000 Tryz.f72)) n (k53_st3 vd wa c12 r11 c13 c14 b16) k).trans ((k53_step3 F vd wa c12 r11 c13 c14 b16 (nextK (iterS tt (k53_tab F) (k53_LS1 F) 70 (k53_ls3 F) (u010 3 (u000 Tryz.f72)) n) k)).trans (congrArg (fun kn => k53_s3 F vd wa c12 R (r11, c13, c14, b16) kn _) (funext (fun ⟨r11, c13, c14, b16⟩ => k53_iter3 F vd wa c12 k n r11 c13 c14 b16))))
theorem k53_lok3 (F : Nat) : u041 Tryz.prog (u010 3 (u000 Tryz.f72)) (k53_ls3 F) := by
  refine u019 mixed ttok deep (k53_tabok F) (u016 (k53_lsok1 F) 3) (fuel := 70) fun R vals mem np killed k x h => ?_
  simp only [k53_ls3] at h
  split at h
  · rename_i vd wa r11 c12 c13 c14 q_t215 b16
    simp only [GT.run] at h
    have hc := (u007 h).1
    replace h := (u007 h).2
    have hg := (u013 hc).1
    replace hc := (u013 hc).2
    obtain rfl := u208 hg
    refine ⟨F, (k53_iter3 F vd wa c12 k F r11 c13 c14 b16).trans ((u020 (k53_s3_nat F vd wa c12) hc _).trans h)⟩
  · simp only [GT.run] at h
    cases h
noncomputable def k53_LS2 (F : Nat) : LT := (3, k53_ls3 F) :: k53_LS1 F
theorem k53_lsok2 (F : Nat) : u011 Tryz.prog (k53_LS2 F) (u000 Tryz.f72) := u012 k53_keys (k53_lok3 F) (k53_lsok1 F)
def k53_st29 (r9 : Int) (c11 : List Int) (k10 : Int) (c12 : Int) (c13 : Int) (b15 : List Int) : St := ⟨u018 110 0 [0, 2, 3, 11, 12] [(.ptr 0 0 0 3), (.ptr 1 0 0 16), (.ptr 2 0 0 16), (.int .i64 r9), (.int .i64 k10)], [(.var 3 (.rv [(.ri .u8 c11), (.int .i64 c12), (.int .u64 c13)])), (.var 16 (.ri .i64 [(0 : Int), (0 : Int), (0 : Int), (0 : Int), (0 : Int), (0 : Int), (0 : Int), (0 : Int), (0 : Int), (0 : Int), (0 : Int), (0 : Int), (0 : Int), (0 : Int), (0 : Int), (0 : Int)])), (.var 16 (.ri .i64 b15))], 1, []⟩
def k53_o29 (r9 : Int) (c11 : List Int) (x : Int × Int × List Int) : GT := (.out (.exit 7 ⟨u018 110 0 [0, 2, 3, 11] [(.ptr 0 0 0 3), (.ptr 1 0 0 16), (.ptr 2 0 0 16), (.int .i64 r9)], [(.var 3 (.rv [(.ri .u8 c11), (.int .i64 x.1), (.int .u64 x.2.1)])), (.var 16 (.ri .i64 [(0 : Int), (0 : Int), (0 : Int), (0 : Int), (0 : Int), (0 : Int), (0 : Int), (0 : Int), (0 : Int), (0 : Int), (0 : Int), (0 : Int), (0 : Int), (0 : Int), (0 : Int), (0 : Int)])), (.var 16 (.ri .i64 x.2.2))], 1, []⟩))
def k53_ls29 (F : Nat) : LoopS := ⟨110, [0, 2, 3, 11, 12], [], [0, 2, 3, 11], [], [2], [], [], fun vals mem np killed => match vals, mem, np, killed with
  | [(.ptr 0 0 0 3), (.ptr 1 0 0 16), (.ptr 2 0 0 16), (.int .i64 r9), (.int .i64 k10)], [(.var 3 (.rv [(.ri .u8 c11), (.int .i64 c12), (.int .u64 c13)])), (.var 16 (.ri .i64 q_t214)), (.var 16 (.ri .i64 b15))], 1, [] => .br ((q_t214 == ([(0 : Int), (0 : Int), (0 : Int), (0 : Int), (0 : Int), (0 : Int), (0 : Int), (0 : Int), (0 : Int), (0 : Int), (0 : Int), (0 : Int), (0 : Int), (0 : Int), (0 : Int), (0 : Int)] : List Int)) && (k53_l29 F r9 c11 k10 c12 c13 b15).isSome) (k53_o29 r9 c11 ((k53_l29 F r9 c11 k10 c12 c13 b15).getD default)) .fail
  | _, _, _, _ => .fail⟩
theorem k53_step29 (F : Nat) (r9 : Int) (c11 : List Int) (k10 : Int) (c12 : Int) (c13 : Int) (b15 : List Int) {R : Type} (k : Out → Option R) : stepS tt (k53_tab F) (k53_LS2 F) 70 (k53_ls29 F) (u010 29 (u000 Tryz.f72)) (k53_st29 r9 c11 k10 c12 c13 b15) k = k53_s29 F r9 c11 R (k10, c12, c13, b15) (fun s => k (.norm (k53_st29 r9 c11 s.1 s.2.1 s.2.2.1 s.2.2.2))) (fun x => (k53_o29 r9 c11 x).run k) := by kernel_rfl
theorem k53_iter29 (F : Nat) (r9 : Int) (c11 : List Int) {R : Type} (k : Out → Option R) : ∀ (n : Nat) (k10 : Int) (c12 : Int) (c13 : Int) (b15 : List Int), iterS tt (k53_tab F) (k53_LS2 F) 70 (k53_ls29 F) (u010 29 (u000 Tryz.f72)) n (k53_st29 r9 c11 k10 c12 c13 b15) k = loopC (k53_s29 F r9 c11) n (k10, c12, c13, b15) (fun x => (k53_o29 r9 c11 x).run k)
  | 0, k10, c12, c13, b15 => rfl
  | n + 1, k10, c12, c13, b15 => (u017 tt (k53_tab F) (k53_LS2 F) 70 (k53_ls29 F) (u010 29 (u000 Tryz.f72)) n (k53_st29 r9 c11 k10 c12 c13 b15) k).trans ((k53_step29 F r9 c11 k10 c12 c13 b15 (nextK (iterS tt (k53_tab F) (k53_LS2 F) 70 (k53_ls29 F) (u010 29 (u000 Tryz.f72)) n) k)).trans (congrArg (fun kn => k53_s29 F r9 c11 R (k10, c12, c13, b15) kn _) (funext (fun ⟨k10, c12, c13, b15⟩ => k53_iter29 F r9 c11 k n k10 c12 c13 b15))))
theorem k53_lok29 (F : Nat) : u041 Tryz.prog (u010 29 (u000 Tryz.f72)) (k53_ls29 F) := by
  refine u019 mixed ttok deep (k53_tabok F) (u016 (k53_lsok2 F) 29) (fuel := 70) fun R vals mem np killed k x h => ?_
  simp only [k53_ls29] at h
  split at h
  · rename_i r9 k10 c11 c12 c13 q_t214 b15
    simp only [GT.run] at h
    have hc := (u007 h).1
    replace h := (u007 h).2
    have hg := (u013 hc).1
    replace hc := (u013 hc).2
    obtain rfl := u208 hg
    refine ⟨F, (k53_iter29 F r9 c11 k F k10 c12 c13 b15).trans ((u020 (k53_s29_nat F r9 c11) hc _).trans h)⟩
  · simp only [GT.run] at h
    cases h
noncomputable def k53_LS3 (F : Nat) : LT := (29, k53_ls29 F) :: k53_LS2 F
theorem k53_lsok3 (F : Nat) : u011 Tryz.prog (k53_LS3 F) (u000 Tryz.f72) := u012 k53_keys (k53_lok29 F) (k53_lsok2 F)
def k53_st26 (c10 : List Int) (r9 : Int) (c11 : Int) (c12 : Int) (b14 : List Int) : St := ⟨u018 110 0 [0, 2, 3, 11] [(.ptr 0 0 0 3), (.ptr 1 0 0 16), (.ptr 2 0 0 16), (.int .i64 r9)], [(.var 3 (.rv [(.ri .u8 c10), (.int .i64 c11), (.int .u64 c12)])), (.var 16 (.ri .i64 [(0 : Int), (0 : Int), (0 : Int), (0 : Int), (0 : Int), (0 : Int), (0 : Int), (0 : Int), (0 : Int), (0 : Int), (0 : Int), (0 : Int), (0 : Int), (0 : Int), (0 : Int), (0 : Int)])), (.var 16 (.ri .i64 b14))], 1, []⟩
def k53_o26 (c10 : List Int) (x : Int × Int × List Int) : GT := (.out (.exit 5 ⟨u018 110 0 [2, 3] [(.ptr 1 0 0 16), (.ptr 2 0 0 16)], [(.var 3 (.rv [(.ri .u8 c10), (.int .i64 x.1), (.int .u64 x.2.1)])), (.var 16 (.ri .i64 [(0 : Int), (0 : Int), (0 : Int), (0 : Int), (0 : Int), (0 : Int), (0 : Int), (0 : Int), (0 : Int), (0 : Int), (0 : Int), (0 : Int), (0 : Int), (0 : Int), (0 : Int), (0 : Int)])), (.var 16 (.ri .i64 x.2.2))], 1, []⟩))
def k53_ls26 (F : Nat) : LoopS := ⟨110, [0, 2, 3, 11], [], [2, 3], [], [2], [], [], fun vals mem np killed => match vals, mem, np, killed with
  | [(.ptr 0 0 0 3), (.ptr 1 0 0 16), (.ptr 2 0 0 16), (.int .i64 r9)], [(.var 3 (.rv [(.ri .u8 c10), (.int .i64 c11), (.int .u64 c12)])), (.var 16 (.ri .i64 q_t213)), (.var 16 (.ri .i64 b14))], 1, [] => .br ((q_t213 == ([(0 : Int), (0 : Int), (0 : Int), (0 : Int), (0 : Int), (0 : Int), (0 : Int), (0 : Int), (0 : Int), (0 : Int), (0 : Int), (0 : Int), (0 : Int), (0 : Int), (0 : Int), (0 : Int)] : List Int)) && (k53_l26 F c10 r9 c11 c12 b14).isSome) (k53_o26 c10 ((k53_l26 F c10 r9 c11 c12 b14).getD default)) .fail
  | _, _, _, _ => .fail⟩
theorem k53_step26 (F : Nat) (c10 : List Int) (r9 : Int) (c11 : Int) (c12 : Int) (b14 : List Int) {R : Type} (k : Out → Option R) : stepS tt (k53_tab F) (k53_LS3 F) 70 (k53_ls26 F) (u010 26 (u000 Tryz.f72)) (k53_st26 c10 r9 c11 c12 b14) k = k53_s26 F c10 R (r9, c11, c12, b14) (fun s => k (.norm (k53_st26 c10 s.1 s.2.1 s.2.2.1 s.2.2.2))) (fun x => (k53_o26 c10 x).run k) := by kernel_rfl
theorem k53_iter26 (F : Nat) (c10 : List Int) {R : Type} (k : Out → Option R) : ∀ (n : Nat) (r9 : Int) (c11 : Int) (c12 : Int) (b14 : List Int), iterS tt (k53_tab F) (k53_LS3 F) 70 (k53_ls26 F) (u010 26 (u000 Tryz.f72)) n (k53_st26 c10 r9 c11 c12 b14) k = loopC (k53_s26 F c10) n (r9, c11, c12, b14) (fun x => (k53_o26 c10 x).run k)
  | 0, r9, c11, c12, b14 => rfl
  | n + 1, r9, c11, c12, b14 => (u017 tt (k53_tab F) (k53_LS3 F) 70 (k53_ls26 F) (u010 26 (u000 Tryz.f72)) n (k53_st26 c10 r9 c11 c12 b14) k).trans ((k53_step26 F c10 r9 c11 c12 b14 (nextK (iterS tt (k53_tab F) (k53_LS3 F) 70 (k53_ls26 F) (u010 26 (u000 Tryz.f72)) n) k)).trans (congrArg (fun kn => k53_s26 F c10 R (r9, c11, c12, b14) kn _) (funext (fun ⟨r9, c11, c12, b14⟩ => k53_iter26 F c10 k n r9 c11 c12 b14))))
theorem k53_lok26 (F : Nat) : u041 Tryz.prog (u010 26 (u000 Tryz.f72)) (k53_ls26 F) := by
  refine u019 mixed ttok deep (k53_tabok F) (u016 (k53_lsok3 F) 26) (fuel := 70) fun R vals mem np killed k x h => ?_
  simp only [k53_ls26] at h
  split at h
  · rename_i r9 c10 c11 c12 q_t213 b14
    simp only [GT.run] at h
    have hc := (u007 h).1
    replace h := (u007 h).2
    have hg := (u013 hc).1
    replace hc := (u013 hc).2
    obtain rfl := u208 hg
    refine ⟨F, (k53_iter26 F c10 k F r9 c11 c12 b14).trans ((u020 (k53_s26_nat F c10) hc _).trans h)⟩
  · simp only [GT.run] at h
    cases h
noncomputable def k53_LS4 (F : Nat) : LT := (26, k53_ls26 F) :: k53_LS3 F
theorem k53_lsok4 (F : Nat) : u011 Tryz.prog (k53_LS4 F) (u000 Tryz.f72) := u012 k53_keys (k53_lok26 F) (k53_lsok3 F)
theorem k53_run (F : Nat) (c3 : List Int) (c4 : Int) (c5 : Int) : runS tt (k53_tab F) (k53_LS4 F) [] [] Tryz.f72 (u000 Tryz.f72) 70 [(.ptr 0 0 0 3)] [(.var 3 (.rv [(.ri .u8 c3), (.int .i64 c4), (.int .u64 c5)]))] = k53_c _ F c3 c4 c5 (fun r => some ⟨(.ints 16 r.1), [(.var 3 (.rv [(.ri .u8 c3), (.int .i64 r.2.1), (.int .u64 r.2.2)]))], []⟩) := by kernel_rfl
def k53_ent (F : Nat) : Ent := ⟨[], .loud, fun args mem => match args, mem with
  | [(.ptr 0 0 0 3)], [(.var 3 (.rv [(.ri .u8 c3), (.int .i64 c4), (.int .u64 c5)]))] => some ((k53_p F c3 c4 c5).isSome, ⟨(.ints 16 ((k53_p F c3 c4 c5).getD default).1), [(.var 3 (.rv [(.ri .u8 c3), (.int .i64 ((k53_p F c3 c4 c5).getD default).2.1), (.int .u64 ((k53_p F c3 c4 c5).getD default).2.2)]))], []⟩)
  | _, _ => none⟩
theorem k53_fok : FunOK Tryz.prog 72 := funOK Tryz.func72 (by kernel_rfl) rfl
theorem k53_meets (F : Nat) : Meets Tryz.prog 72 (k53_ent F) := by
  refine u002 mixed ttok deep (k53_tabok F) Tryz.func72 (u009 rfl) (k53_lsok4 F) fun args mem hfit ret h => ?_
  clear hfit
  simp only [k53_ent] at h
  split at h
  · rename_i c3 c4 c5
    simp only [Option.some.injEq, Prod.mk.injEq] at h
    obtain ⟨hc, rfl⟩ := h
    exact ⟨[], [], 70, _, (k53_run F c3 c4 c5).trans ((k53_cp _ F c3 c4 c5 _).trans (u014 hc _)), rfl, rfl, rfl⟩
  · cases h
noncomputable def k68_tab (F : Nat) : Tab := [(74, (k73_ent F)), (54, (k52_ent F)), (46, (k67_ent F))]
theorem k68_tabok (F : Nat) : TabOK Tryz.prog (k68_tab F) := (u001 (k73_meets F) k73_fok (u001 (k52_meets F) k52_fok (u001 (k67_meets F) k67_fok u015)))
noncomputable def k68_LS0 (F : Nat) : LT := []
theorem k68_lsok0 (F : Nat) : u011 Tryz.prog (k68_LS0 F) (u000 Tryz.f73) := u005
theorem k68_run (F : Nat) (c3 : List Int) (c4 : Int) (c5 : Int) : runS tt (k68_tab F) (k68_LS0 F) [] [] Tryz.f73 (u000 Tryz.f73) 70 [(.ptr 0 0 0 3)] [(.var 3 (.rv [(.ri .u8 c3), (.int .i64 c4), (.int .u64 c5)]))] = k68_c _ c3 c4 c5 (fun r => some ⟨(.int .i64 r.1), [(.var 3 (.rv [(.ri .u8 c3), (.int .i64 r.2.1), (.int .u64 r.2.2)]))], []⟩) := by kernel_rfl
def k68_ent (F : Nat) : Ent := ⟨[], .loud, fun args mem => match args, mem with
  | [(.ptr 0 0 0 3)], [(.var 3 (.rv [(.ri .u8 c3), (.int .i64 c4), (.int .u64 c5)]))] => some ((k68_p c3 c4 c5).isSome, ⟨(.int .i64 ((k68_p c3 c4 c5).getD default).1), [(.var 3 (.rv [(.ri .u8 c3), (.int .i64 ((k68_p c3 c4 c5).getD default).2.1), (.int .u64 ((k68_p c3 c4 c5).getD default).2.2)]))], []⟩)
  | _, _ => none⟩
theorem k68_fok : FunOK Tryz.prog 73 := funOK Tryz.func73 (by kernel_rfl) rfl
theorem k68_meets (F : Nat) : Meets Tryz.prog 73 (k68_ent F) := by
  refine u002 mixed ttok deep (k68_tabok F) Tryz.func73 (u009 rfl) (k68_lsok0 F) fun args mem hfit ret h => ?_
  clear hfit
  simp only [k68_ent] at h
  split at h
  · rename_i c3 c4 c5
    simp only [Option.some.injEq, Prod.mk.injEq] at h
    obtain ⟨hc, rfl⟩ := h
    exact ⟨[], [], 70, _, (k68_run F c3 c4 c5).trans ((k68_cp _ c3 c4 c5 _).trans (u014 hc _)), rfl, rfl, rfl⟩
  · cases h
noncomputable def k130_tab (F : Nat) : Tab := []
theorem k130_tabok (F : Nat) : TabOK Tryz.prog (k130_tab F) := u015
noncomputable def k130_LS0 (F : Nat) : LT := []
theorem k130_lsok0 (F : Nat) : u011 Tryz.prog (k130_LS0 F) (u000 Tryz.f52) := u005
theorem k130_run (F : Nat) (x0 : Int) (a1 : Int) (b2 : Int) : runS tt (k130_tab F) (k130_LS0 F) [] [] Tryz.f52 (u000 Tryz.f52) 70 [(.int .i64 x0), (.int .i64 a1), (.int .i64 b2)] [] = k130_c _ x0 a1 b2 (fun r => some ⟨(.bool r), [], []⟩) := by kernel_rfl
def k130_ent (F : Nat) : Ent := ⟨[], .quiet, fun args mem => match args, mem with
  | [(.int .i64 x0), (.int .i64 a1), (.int .i64 b2)], [] => some (true, ⟨(.bool (k130_v x0 a1 b2)), [], []⟩)
  | _, _ => none⟩
theorem k130_fok : FunOK Tryz.prog 52 := funOK Tryz.func52 (by kernel_rfl) rfl
theorem k130_meets (F : Nat) : Meets Tryz.prog 52 (k130_ent F) := by
  refine u002 mixed ttok deep (k130_tabok F) Tryz.func52 (u009 rfl) (k130_lsok0 F) fun args mem hfit ret h => ?_
  clear hfit
  simp only [k130_ent] at h
  split at h
  · rename_i x0 a1 b2
    simp only [Option.some.injEq, Prod.mk.injEq] at h
    obtain ⟨hc, rfl⟩ := h
    exact ⟨[], [], 70, _, (k130_run F x0 a1 b2).trans (k130_cv _ x0 a1 b2 _), rfl, rfl, rfl⟩
  · cases h
noncomputable def k99_tab (F : Nat) : Tab := [(52, (k130_ent F))]
theorem k99_tabok (F : Nat) : TabOK Tryz.prog (k99_tab F) := (u001 (k130_meets F) k130_fok u015)
noncomputable def k99_LS0 (F : Nat) : LT := []
theorem k99_lsok0 (F : Nat) : u011 Tryz.prog (k99_LS0 F) (u000 Tryz.f37) := u005
theorem k99_keys : u059 (u000 Tryz.f37) = true := by kernel_rfl
def k99_st5 (r3 : Int) (b5 : List Int) (c4 : Int) : St := ⟨u018 21 0 [1, 3, 4] [(.ptr 0 0 0 16), (.int .i64 r3), (.int .i64 c4)], [(.var 16 (.ri .i64 b5))], 0, []⟩
def k99_o5 (r3 : Int) (b5 : List Int) (x : Bool) : GT := (.br x (.out (.ret ⟨u018 21 0 [2] [(.bool false)], [], 0, []⟩)) (.out (.exit 2 ⟨u018 21 0 [1, 3] [(.ptr 0 0 0 16), (.int .i64 r3)], [(.var 16 (.ri .i64 b5))], 0, []⟩)))
def k99_ls5 (F : Nat) : LoopS := ⟨21, [1, 3, 4], [], [1, 3], [], [2], [], [], fun vals mem np killed => match vals, mem, np, killed with
  | [(.ptr 0 0 0 16), (.int .i64 r3), (.int .i64 c4)], [(.var 16 (.ri .i64 b5))], 0, [] => .br (k99_l5 F r3 b5 c4).isSome (k99_o5 r3 b5 ((k99_l5 F r3 b5 c4).getD default)) .fail
  | _, _, _, _ => .fail⟩
theorem k99_step5 (F : Nat) (r3 : Int) (b5 : List Int) (c4 : Int) {R : Type} (k : Out → Option R) : stepS tt (k99_tab F) (k99_LS0 F) 70 (k99_ls5 F) (u010 5 (u000 Tryz.f37)) (k99_st5 r3 b5 c4) k = k99_s5 F r3 b5 R c4 (fun s => k (.norm (k99_st5 r3 b5 s))) (fun x => (k99_o5 r3 b5 x).run k) := by kernel_rfl
theorem k99_iter5 (F : Nat) (r3 : Int) (b5 : List Int) {R : Type} (k : Out → Option R) : ∀ (n : Nat) (c4 : Int), iterS tt (k99_tab F) (k99_LS0 F) 70 (k99_ls5 F) (u010 5 (u000 Tryz.f37)) n (k99_st5 r3 b5 c4) k = loopC (k99_s5 F r3 b5) n c4 (fun x => (k99_o5 r3 b5 x).run k)
  | 0, c4 => rfl
  | n + 1, c4 => (u017 tt (k99_tab F) (k99_LS0 F) 70 (k99_ls5 F) (u010 5 (u000 Tryz.f37)) n (k99_st5 r3 b5 c4) k).trans ((k99_step5 F r3 b5 c4 (nextK (iterS tt (k99_tab F) (k99_LS0 F) 70 (k99_ls5 F) (u010 5 (u000 Tryz.f37)) n) k)).trans (congrArg (fun kn => k99_s5 F r3 b5 R c4 kn _) (funext (fun c4 => k99_iter5 F r3 b5 k n c4))))
theorem k99_lok5 (F : Nat) : u041 Tryz.prog (u010 5 (u000 Tryz.f37)) (k99_ls5 F) := by
  refine u019 mixed ttok deep (k99_tabok F) (u016 (k99_lsok0 F) 5) (fuel := 70) fun R vals mem np killed k x h => ?_
  simp only [k99_ls5] at h
  split at h
  · rename_i r3 c4 b5
    simp only [GT.run] at h
    have hc := (u007 h).1
    replace h := (u007 h).2
    refine ⟨F, (k99_iter5 F r3 b5 k F c4).trans ((u020 (k99_s5_nat F r3 b5) hc _).trans h)⟩
  · simp only [GT.run] at h
    cases h
noncomputable def k99_LS1 (F : Nat) : LT := (5, k99_ls5 F) :: k99_LS0 F
theorem k99_lsok1 (F : Nat) : u011 Tryz.prog (k99_LS1 F) (u000 Tryz.f37) := u012 k99_keys (k99_lok5 F) (k99_lsok0 F)
def k99_st2 (b4 : List Int) (r3 : Int) : St := ⟨u018 21 0 [1, 3] [(.ptr 0 0 0 16), (.int .i64 r3)], [(.var 16 (.ri .i64 b4))], 0, []⟩
def k99_o2 (b4 : List Int) (x : Bool) : GT := (.br x (.out (.ret ⟨u018 21 0 [2] [(.bool false)], [], 0, []⟩)) (.out (.exit 0 ⟨u018 21 0 [] [], [], 0, []⟩)))
def k99_ls2 (F : Nat) : LoopS := ⟨21, [1, 3], [], [], [], [2], [], [], fun vals mem np killed => match vals, mem, np, killed with
  | [(.ptr 0 0 0 16), (.int .i64 r3)], [(.var 16 (.ri .i64 b4))], 0, [] => .br (k99_l2 F b4 r3).isSome (k99_o2 b4 ((k99_l2 F b4 r3).getD default)) .fail
  | _, _, _, _ => .fail⟩
theorem k99_step2 (F : Nat) (b4 : List Int) (r3 : Int) {R : Type} (k : Out → Option R) : stepS tt (k99_tab F) (k99_LS1 F) 70 (k99_ls2 F) (u010 2 (u000 Tryz.f37)) (k99_st2 b4 r3) k = k99_s2 F b4 R r3 (fun s => k (.norm (k99_st2 b4 s))) (fun x => (k99_o2 b4 x).run k) := by kernel_rfl
theorem k99_iter2 (F : Nat) (b4 : List Int) {R : Type} (k : Out → Option R) : ∀ (n : Nat) (r3 : Int), iterS tt (k99_tab F) (k99_LS1 F) 70 (k99_ls2 F) (u010 2 (u000 Tryz.f37)) n (k99_st2 b4 r3) k = loopC (k99_s2 F b4) n r3 (fun x => (k99_o2 b4 x).run k)
  | 0, r3 => rfl
  | n + 1, r3 => (u017 tt (k99_tab F) (k99_LS1 F) 70 (k99_ls2 F) (u010 2 (u000 Tryz.f37)) n (k99_st2 b4 r3) k).trans ((k99_step2 F b4 r3 (nextK (iterS tt (k99_tab F) (k99_LS1 F) 70 (k99_ls2 F) (u010 2 (u000 Tryz.f37)) n) k)).trans (congrArg (fun kn => k99_s2 F b4 R r3 kn _) (funext (fun r3 => k99_iter2 F b4 k n r3))))
theorem k99_lok2 (F : Nat) : u041 Tryz.prog (u010 2 (u000 Tryz.f37)) (k99_ls2 F) := by
  refine u019 mixed ttok deep (k99_tabok F) (u016 (k99_lsok1 F) 2) (fuel := 70) fun R vals mem np killed k x h => ?_
  simp only [k99_ls2] at h
  split at h
  · rename_i r3 b4
    simp only [GT.run] at h
    have hc := (u007 h).1
    replace h := (u007 h).2
    refine ⟨F, (k99_iter2 F b4 k F r3).trans ((u020 (k99_s2_nat F b4) hc _).trans h)⟩
  · simp only [GT.run] at h
    cases h
noncomputable def k99_LS2 (F : Nat) : LT := (2, k99_ls2 F) :: k99_LS1 F
theorem k99_lsok2 (F : Nat) : u011 Tryz.prog (k99_LS2 F) (u000 Tryz.f37) := u012 k99_keys (k99_lok2 F) (k99_lsok1 F)
theorem k99_run (F : Nat) (b0 : List Int) : runS tt (k99_tab F) (k99_LS2 F) [] [] Tryz.f37 (u000 Tryz.f37) 70 [(.ints 16 b0)] [] = k99_c _ F b0 (fun r => some ⟨(.bool r), [], []⟩) := by kernel_rfl
def k99_ent (F : Nat) : Ent := ⟨[], .quiet, fun args mem => match args, mem with
  | [(.ints 16 b0)], [] => some ((k99_p F b0).isSome, ⟨(.bool ((k99_p F b0).getD default)), [], []⟩)
  | _, _ => none⟩
theorem k99_fok : FunOK Tryz.prog 37 := funOK Tryz.func37 (by kernel_rfl) rfl
theorem k99_meets (F : Nat) : Meets Tryz.prog 37 (k99_ent F) := by
  refine u002 mixed ttok deep (k99_tabok F) Tryz.func37 (u009 rfl) (k99_lsok2 F) fun args mem hfit ret h => ?_
  clear hfit
  simp only [k99_ent] at h
  split at h
  · rename_i b0
    simp only [Option.some.injEq, Prod.mk.injEq] at h
    obtain ⟨hc, rfl⟩ := h
    exact ⟨[], [], 70, _, (k99_run F b0).trans ((k99_cp _ F b0 _).trans (u014 hc _)), rfl, rfl, rfl⟩
  · cases h
noncomputable def k114_tab (F : Nat) : Tab := [(52, (k130_ent F))]
theorem k114_tabok (F : Nat) : TabOK Tryz.prog (k114_tab F) := (u001 (k130_meets F) k130_fok u015)
noncomputable def k114_LS0 (F : Nat) : LT := []
theorem k114_lsok0 (F : Nat) : u011 Tryz.prog (k114_LS0 F) (u000 Tryz.f38) := u005
theorem k114_run (F : Nat) (d0 : Int) : runS tt (k114_tab F) (k114_LS0 F) [] [] Tryz.f38 (u000 Tryz.f38) 70 [(.int .i64 d0)] [] = k114_c _ d0 (fun r => some ⟨(.bool r), [], []⟩) := by kernel_rfl
def k114_ent (F : Nat) : Ent := ⟨[], .quiet, fun args mem => match args, mem with
  | [(.int .i64 d0)], [] => some (true, ⟨(.bool (k114_v d0)), [], []⟩)
  | _, _ => none⟩
theorem k114_fok : FunOK Tryz.prog 38 := funOK Tryz.func38 (by kernel_rfl) rfl
theorem k114_meets (F : Nat) : Meets Tryz.prog 38 (k114_ent F) := by
  refine u002 mixed ttok deep (k114_tabok F) Tryz.func38 (u009 rfl) (k114_lsok0 F) fun args mem hfit ret h => ?_
  clear hfit
  simp only [k114_ent] at h
  split at h
  · rename_i d0
    simp only [Option.some.injEq, Prod.mk.injEq] at h
    obtain ⟨hc, rfl⟩ := h
    exact ⟨[], [], 70, _, (k114_run F d0).trans (k114_cv _ d0 _), rfl, rfl, rfl⟩
  · cases h
noncomputable def k113_tab (F : Nat) : Tab := []
theorem k113_tabok (F : Nat) : TabOK Tryz.prog (k113_tab F) := u015
noncomputable def k113_LS0 (F : Nat) : LT := []
theorem k113_lsok0 (F : Nat) : u011 Tryz.prog (k113_LS0 F) (u000 Tryz.f94) := u005
theorem k113_keys : u059 (u000 Tryz.f94) = true := by kernel_rfl
def k113_st3 (d0 : Int) (i1 : Int) (k8 : Int) (je : List Int) : St := ⟨u018 42 0 [0, 1, 4, 5, 6] [(.int .i64 d0), (.int .i64 i1), (.ptr 0 0 0 8), (.ptr 1 0 0 8), (.int .i64 k8)], [(.var 8 (.ri .i64 [(0 : Int), (0 : Int), (0 : Int), (0 : Int), (0 : Int), (0 : Int), (0 : Int), (0 : Int)])), (.var 8 (.ri .i64 je))], 0, []⟩
def k113_o3 (d0 : Int) (i1 : Int) (x : List Int) : GT := (.out (.exit 0 ⟨u018 42 0 [4, 5] [(.ptr 0 0 0 8), (.ptr 1 0 0 8)], [(.var 8 (.ri .i64 [(0 : Int), (0 : Int), (0 : Int), (0 : Int), (0 : Int), (0 : Int), (0 : Int), (0 : Int)])), (.var 8 (.ri .i64 x))], 0, []⟩))
def k113_ls3 (F : Nat) : LoopS := ⟨42, [0, 1, 4, 5, 6], [], [4, 5], [], [4], [], [], fun vals mem np killed => match vals, mem, np, killed with
  | [(.int .i64 d0), (.int .i64 i1), (.ptr 0 0 0 8), (.ptr 1 0 0 8), (.int .i64 k8)], [(.var 8 (.ri .i64 q_t49)), (.var 8 (.ri .i64 je))], 0, [] => .br ((q_t49 == ([(0 : Int), (0 : Int), (0 : Int), (0 : Int), (0 : Int), (0 : Int), (0 : Int), (0 : Int)] : List Int)) && (k113_l3 F d0 i1 k8 je).isSome) (k113_o3 d0 i1 ((k113_l3 F d0 i1 k8 je).getD default)) .fail
  | _, _, _, _ => .fail⟩
theorem k113_step3 (F : Nat) (d0 : Int) (i1 : Int) (k8 : Int) (je : List Int) {R : Type} (k : Out → Option R) : stepS tt (k113_tab F) (k113_LS0 F) 70 (k113_ls3 F) (u010 3 (u000 Tryz.f94)) (k113_st3 d0 i1 k8 je) k = k113_s3 F d0 i1 R (k8, je) (fun s => k (.norm (k113_st3 d0 i1 s.1 s.2))) (fun x => (k113_o3 d0 i1 x).run k) := by kernel_rfl
theorem k113_iter3 (F : Nat) (d0 : Int) (i1 : Int) {R : Type} (k : Out → Option R) : ∀ (n : Nat) (k8 : Int) (je : List Int), iterS tt (k113_tab F) (k113_LS0 F) 70 (k113_ls3 F) (u010 3 (u000 Tryz.f94)) n (k113_st3 d0 i1 k8 je) k = loopC (k113_s3 F d0 i1) n (k8, je) (fun x => (k113_o3 d0 i1 x).run k)
  | 0, k8, je => rfl
  | n + 1, k8, je => (u017 tt (k113_tab F) (k113_LS0 F) 70 (k113_ls3 F) (u010 3 (u000 Tryz.f94)) n (k113_st3 d0 i1 k8 je) k).trans ((k113_step3 F d0 i1 k8 je (nextK (iterS tt (k113_tab F) (k113_LS0 F) 70 (k113_ls3 F) (u010 3 (u000 Tryz.f94)) n) k)).trans (congrArg (fun kn => k113_s3 F d0 i1 R (k8, je) kn _) (funext (fun ⟨k8, je⟩ => k113_iter3 F d0 i1 k n k8 je))))
theorem k113_lok3 (F : Nat) : u041 Tryz.prog (u010 3 (u000 Tryz.f94)) (k113_ls3 F) := by
  refine u019 mixed ttok deep (k113_tabok F) (u016 (k113_lsok0 F) 3) (fuel := 70) fun R vals mem np killed k x h => ?_
  simp only [k113_ls3] at h
  split at h
  · rename_i d0 i1 k8 q_t49 je
    simp only [GT.run] at h
    have hc := (u007 h).1
    replace h := (u007 h).2
    have hg := (u013 hc).1
    replace hc := (u013 hc).2
    obtain rfl := u208 hg
    refine ⟨F, (k113_iter3 F d0 i1 k F k8 je).trans ((u020 (k113_s3_nat F d0 i1) hc _).trans h)⟩
  · simp only [GT.run] at h
    cases h
noncomputable def k113_LS1 (F : Nat) : LT := (3, k113_ls3 F) :: k113_LS0 F
theorem k113_lsok1 (F : Nat) : u011 Tryz.prog (k113_LS1 F) (u000 Tryz.f94) := u012 k113_keys (k113_lok3 F) (k113_lsok0 F)
theorem k113_run (F : Nat) (d0 : Int) (i1 : Int) : runS tt (k113_tab F) (k113_LS1 F) [] [] Tryz.f94 (u000 Tryz.f94) 70 [(.int .i64 d0), (.int .i64 i1)] [] = k113_c _ F d0 i1 (fun r => some ⟨(.ints 8 r), [], []⟩) := by kernel_rfl
def k113_ent (F : Nat) : Ent := ⟨[], .quiet, fun args mem => match args, mem with
  | [(.int .i64 d0), (.int .i64 i1)], [] => some ((k113_p F d0 i1).isSome, ⟨(.ints 8 ((k113_p F d0 i1).getD default)), [], []⟩)
  | _, _ => none⟩
theorem k113_fok : FunOK Tryz.prog 94 := funOK Tryz.func94 (by kernel_rfl) rfl
theorem k113_meets (F : Nat) : Meets Tryz.prog 94 (k113_ent F) := by
  refine u002 mixed ttok deep (k113_tabok F) Tryz.func94 (u009 rfl) (k113_lsok1 F) fun args mem hfit ret h => ?_
  clear hfit
  simp only [k113_ent] at h
  split at h
  · rename_i d0 i1
    simp only [Option.some.injEq, Prod.mk.injEq] at h
    obtain ⟨hc, rfl⟩ := h
    exact ⟨[], [], 70, _, (k113_run F d0 i1).trans ((k113_cp _ F d0 i1 _).trans (u014 hc _)), rfl, rfl, rfl⟩
  · cases h
noncomputable def k131_tab (F : Nat) : Tab := []
theorem k131_tabok (F : Nat) : TabOK Tryz.prog (k131_tab F) := u015
noncomputable def k131_LS0 (F : Nat) : LT := []
theorem k131_lsok0 (F : Nat) : u011 Tryz.prog (k131_LS0 F) (u000 Tryz.f53) := u005
theorem k131_run (F : Nat) (b0 : List Int) (wf : List Int) : runS tt (k131_tab F) (k131_LS0 F) [] [] Tryz.f53 (u000 Tryz.f53) 70 [(.ints 16 b0), (.ints 2 wf)] [] = k131_c _ b0 wf (fun r => some ⟨(.int .i64 r), [], []⟩) := by kernel_rfl
def k131_ent (F : Nat) : Ent := ⟨[], .quiet, fun args mem => match args, mem with
  | [(.ints 16 b0), (.ints 2 wf)], [] => some ((k131_p b0 wf).isSome, ⟨(.int .i64 ((k131_p b0 wf).getD default)), [], []⟩)
  | _, _ => none⟩
theorem k131_fok : FunOK Tryz.prog 53 := funOK Tryz.func53 (by kernel_rfl) rfl
theorem k131_meets (F : Nat) : Meets Tryz.prog 53 (k131_ent F) := by
  refine u002 mixed ttok deep (k131_tabok F) Tryz.func53 (u009 rfl) (k131_lsok0 F) fun args mem hfit ret h => ?_
  clear hfit
  simp only [k131_ent] at h
  split at h
  · rename_i b0 wf
    simp only [Option.some.injEq, Prod.mk.injEq] at h
    obtain ⟨hc, rfl⟩ := h
    exact ⟨[], [], 70, _, (k131_run F b0 wf).trans ((k131_cp _ b0 wf _).trans (u014 hc _)), rfl, rfl, rfl⟩
  · cases h
noncomputable def k74_tab (F : Nat) : Tab := [(94, (k113_ent F)), (53, (k131_ent F))]
theorem k74_tabok (F : Nat) : TabOK Tryz.prog (k74_tab F) := (u001 (k113_meets F) k113_fok (u001 (k131_meets F) k131_fok u015))
noncomputable def k74_LS0 (F : Nat) : LT := []
theorem k74_lsok0 (F : Nat) : u011 Tryz.prog (k74_LS0 F) (u000 Tryz.f93) := u005
theorem k74_run (F : Nat) (b0 : List Int) (d1 : Int) (i2 : Int) : runS tt (k74_tab F) (k74_LS0 F) [] [] Tryz.f93 (u000 Tryz.f93) 70 [(.ints 16 b0), (.int .i64 d1), (.int .i64 i2)] [] = k74_c _ F b0 d1 i2 (fun r => some ⟨(.ints 4 r), [], []⟩) := by kernel_rfl
def k74_ent (F : Nat) : Ent := ⟨[], .quiet, fun args mem => match args, mem with
  | [(.ints 16 b0), (.int .i64 d1), (.int .i64 i2)], [] => some ((k74_p F b0 d1 i2).isSome, ⟨(.ints 4 ((k74_p F b0 d1 i2).getD default)), [], []⟩)
  | _, _ => none⟩
theorem k74_fok : FunOK Tryz.prog 93 := funOK Tryz.func93 (by kernel_rfl) rfl
theorem k74_meets (F : Nat) : Meets Tryz.prog 93 (k74_ent F) := by
  refine u002 mixed ttok deep (k74_tabok F) Tryz.func93 (u009 rfl) (k74_lsok0 F) fun args mem hfit ret h => ?_
  clear hfit
  simp only [k74_ent] at h
  split at h
  · rename_i b0 d1 i2
    simp only [Option.some.injEq, Prod.mk.injEq] at h
    obtain ⟨hc, rfl⟩ := h
    exact ⟨[], [], 70, _, (k74_run F b0 d1 i2).trans ((k74_cp _ F b0 d1 i2 _).trans (u014 hc _)), rfl, rfl, rfl⟩
  · cases h
noncomputable def k102_tab (F : Nat) : Tab := []
theorem k102_tabok (F : Nat) : TabOK Tryz.prog (k102_tab F) := u015
noncomputable def k102_LS0 (F : Nat) : LT := []
theorem k102_lsok0 (F : Nat) : u011 Tryz.prog (k102_LS0 F) (u000 Tryz.f119) := u005
theorem k102_run (F : Nat) (t0 : Int) : runS tt (k102_tab F) (k102_LS0 F) [] [] Tryz.f119 (u000 Tryz.f119) 70 [(.int .i64 t0)] [] = k102_c _ t0 (fun r => some ⟨(.int .i64 r), [], []⟩) := by kernel_rfl
def k102_ent (F : Nat) : Ent := ⟨[], .quiet, fun args mem => match args, mem with
  | [(.int .i64 t0)], [] => some ((k102_p t0).isSome, ⟨(.int .i64 ((k102_p t0).getD default)), [], []⟩)
  | _, _ => none⟩
theorem k102_fok : FunOK Tryz.prog 119 := funOK Tryz.func119 (by kernel_rfl) rfl
theorem k102_meets (F : Nat) : Meets Tryz.prog 119 (k102_ent F) := by
  refine u002 mixed ttok deep (k102_tabok F) Tryz.func119 (u009 rfl) (k102_lsok0 F) fun args mem hfit ret h => ?_
  clear hfit
  simp only [k102_ent] at h
  split at h
  · rename_i t0
    simp only [Option.some.injEq, Prod.mk.injEq] at h
    obtain ⟨hc, rfl⟩ := h
    exact ⟨[], [], 70, _, (k102_run F t0).trans ((k102_cp _ t0 _).trans (u014 hc _)), rfl, rfl, rfl⟩
  · cases h
noncomputable def k125_tab (F : Nat) : Tab := [(119, (k102_ent F))]
theorem k125_tabok (F : Nat) : TabOK Tryz.prog (k125_tab F) := (u001 (k102_meets F) k102_fok u015)
noncomputable def k125_LS0 (F : Nat) : LT := []
theorem k125_lsok0 (F : Nat) : u011 Tryz.prog (k125_LS0 F) (u000 Tryz.f96) := u005
theorem k125_keys : u059 (u000 Tryz.f96) = true := by kernel_rfl
def k125_st3 (yp : List Int) (n9 : Int) (w7 : Int) (jx : Bool) (k12 : Int) (j8 : List Int) : St := ⟨u018 63 0 [1, 2, 4, 5, 6, 7, 8] [(.ptr 0 0 0 4), (.ptr 1 0 0 4), (.ptr 2 0 0 4), (.int .i64 n9), (.int .i64 w7), (.bool jx), (.int .i64 k12)], [(.var 4 (.ri .i64 yp)), (.var 4 (.ri .i64 [(0 : Int), (0 : Int), (0 : Int), (0 : Int)])), (.var 4 (.ri .i64 j8))], 0, []⟩
def k125_o3 (yp : List Int) (x : Int × List Int) : GT := (.out (.exit 0 ⟨u018 63 0 [2, 4, 6] [(.ptr 0 0 0 4), (.ptr 1 0 0 4), (.int .i64 x.1)], [(.var 4 (.ri .i64 [(0 : Int), (0 : Int), (0 : Int), (0 : Int)])), (.var 4 (.ri .i64 x.2))], 0, []⟩))
def k125_ls3 (F : Nat) : LoopS := ⟨63, [1, 2, 4, 5, 6, 7, 8], [], [2, 4, 6], [], [2, 3], [], [], fun vals mem np killed => match vals, mem, np, killed with
  | [(.ptr 0 0 0 4), (.ptr 1 0 0 4), (.ptr 2 0 0 4), (.int .i64 n9), (.int .i64 w7), (.bool jx), (.int .i64 k12)], [(.var 4 (.ri .i64 yp)), (.var 4 (.ri .i64 q_t214)), (.var 4 (.ri .i64 j8))], 0, [] => .br ((q_t214 == ([(0 : Int), (0 : Int), (0 : Int), (0 : Int)] : List Int)) && (k125_l3 F yp n9 w7 jx k12 j8).isSome) (k125_o3 yp ((k125_l3 F yp n9 w7 jx k12 j8).getD default)) .fail
  | _, _, _, _ => .fail⟩
theorem k125_step3 (F : Nat) (yp : List Int) (n9 : Int) (w7 : Int) (jx : Bool) (k12 : Int) (j8 : List Int) {R : Type} (k : Out → Option R) : stepS tt (k125_tab F) (k125_LS0 F) 70 (k125_ls3 F) (u010 3 (u000 Tryz.f96)) (k125_st3 yp n9 w7 jx k12 j8) k = k125_s3 F yp R (n9, w7, jx, k12, j8) (fun s => k (.norm (k125_st3 yp s.1 s.2.1 s.2.2.1 s.2.2.2.1 s.2.2.2.2))) (fun x => (k125_o3 yp x).run k) := by kernel_rfl
theorem k125_iter3 (F : Nat) (yp : List Int) {R : Type} (k : Out → Option R) : ∀ (n : Nat) (n9 : Int) (w7 : Int) (jx : Bool) (k12 : Int) (j8 : List Int), iterS tt (k125_tab F) (k125_LS0 F) 70 (k125_ls3 F) (u010 3 (u000 Tryz.f96)) n (k125_st3 yp n9 w7 jx k12 j8) k = loopC (k125_s3 F yp) n (n9, w7, jx, k12, j8) (fun x => (k125_o3 yp x).run k)
  | 0, n9, w7, jx, k12, j8 => rfl
  | n + 1, n9, w7, jx, k12, j8 => (u017 tt (k125_tab F) (k125_LS0 F) 70 (k125_ls3 F) (u010 3 (u000 Tryz.f96)) n (k125_st3 yp n9 w7 jx k12 j8) k).trans ((k125_step3 F yp n9 w7 jx k12 j8 (nextK (iterS tt (k125_tab F) (k125_LS0 F) 70 (k125_ls3 F) (u010 3 (u000 Tryz.f96)) n) k)).trans (congrArg (fun kn => k125_s3 F yp R (n9, w7, jx, k12, j8) kn _) (funext (fun ⟨n9, w7, jx, k12, j8⟩ => k125_iter3 F yp k n n9 w7 jx k12 j8))))
theorem k125_lok3 (F : Nat) : u041 Tryz.prog (u010 3 (u000 Tryz.f96)) (k125_ls3 F) := by
  refine u019 mixed ttok deep (k125_tabok F) (u016 (k125_lsok0 F) 3) (fuel := 70) fun R vals mem np killed k x h => ?_
  simp only [k125_ls3] at h
  split at h
  · rename_i n9 w7 jx k12 yp q_t214 j8
    simp only [GT.run] at h
    have hc := (u007 h).1
    replace h := (u007 h).2
    have hg := (u013 hc).1
    replace hc := (u013 hc).2
    obtain rfl := u208 hg
    refine ⟨F, (k125_iter3 F yp k F n9 w7 jx k12 j8).trans ((u020 (k125_s3_nat F yp) hc _).trans h)⟩
  · simp only [GT.run] at h
    cases h
noncomputable def k125_LS1 (F : Nat) : LT := (3, k125_ls3 F) :: k125_LS0 F
theorem k125_lsok1 (F : Nat) : u011 Tryz.prog (k125_LS1 F) (u000 Tryz.f96) := u012 k125_keys (k125_lok3 F) (k125_lsok0 F)
theorem k125_run (F : Nat) (w4 : List Int) : runS tt (k125_tab F) (k125_LS1 F) [] [] Tryz.f96 (u000 Tryz.f96) 70 [(.ints 4 w4)] [] = k125_c _ F w4 (fun r => some ⟨(.tup [(.ints 4 r.1), (.int .i64 r.2)]), [], []⟩) := by kernel_rfl
def k125_ent (F : Nat) : Ent := ⟨[], .quiet, fun args mem => match args, mem with
  | [(.ints 4 w4)], [] => some ((k125_p F w4).isSome, ⟨(.tup [(.ints 4 ((k125_p F w4).getD default).1), (.int .i64 ((k125_p F w4).getD default).2)]), [], []⟩)
  | _, _ => none⟩
theorem k125_fok : FunOK Tryz.prog 96 := funOK Tryz.func96 (by kernel_rfl) rfl
theorem k125_meets (F : Nat) : Meets Tryz.prog 96 (k125_ent F) := by
  refine u002 mixed ttok deep (k125_tabok F) Tryz.func96 (u009 rfl) (k125_lsok1 F) fun args mem hfit ret h => ?_
  clear hfit
  simp only [k125_ent] at h
  split at h
  · rename_i w4
    simp only [Option.some.injEq, Prod.mk.injEq] at h
    obtain ⟨hc, rfl⟩ := h
    exact ⟨[], [], 70, _, (k125_run F w4).trans ((k125_cp _ F w4 _).trans (u014 hc _)), rfl, rfl, rfl⟩
  · cases h
end Go.Proofs.YtabfliifleonaakGreat
