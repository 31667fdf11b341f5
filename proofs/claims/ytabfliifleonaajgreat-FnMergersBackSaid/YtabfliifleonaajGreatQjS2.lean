/-
Pure functions and what the code of them does, by program; without conditions.
-/
import Derived.Test.YtabfliifleonaajGreatQjP2
import Derived.Test.YtabfliifleonaajGreatQjS1
namespace Go.Proofs.YtabfliifleonaajGreat
open Go Go.Lv Go.Lv.P Go.Proofs
set_option linter.unusedVariables false
set_option linter.unusedSimpArgs false
set_option maxRecDepth 100000
/-! slices.DeleteFunc[[]int,int] -/
noncomputable def k21_tab (F : Nat) : Tab := [(80, (k23_ent F)), (57, (k84_ent F))]
theorem k21_tabok (F : Nat) : TabOK Tryz.prog (k21_tab F) := (tab_cons (k23_meets F) k23_fok (tab_cons (k84_meets F) k84_fok tab_nil))
noncomputable def k21_LS0 (F : Nat) : LT := []
theorem k21_lsok0 (F : Nat) : LoopsOK Tryz.prog (k21_LS0 F) (bodyOf Tryz.f55) := loopsOK_nil
theorem k21_keys : keysOK (bodyOf Tryz.f55) = true := by kernel_rfl
def k21_st5 (s1 : Nat) (i2 : Int) (j3 : Int) (s4 : List Int) : St := ⟨expand 42 0 [0, 1, 5, 6] [(.sl 0 0 s1), (.fn 57 [] []), (.int .i64 i2), (.int .i64 j3)], [(.vec 3 (.ri .i64 s4))], 1, []⟩
def k21_o5 (s1 : Nat) (x : Int × List Int) : GT := (.out (.exit 0 ⟨expand 42 0 [0, 5] [(.sl 0 0 s1), (.int .i64 x.1)], [(.vec 3 (.ri .i64 x.2))], 1, []⟩))
def k21_ls5 (F : Nat) : LoopS := ⟨42, [0, 1, 5, 6], [], [0, 5], [], [4], [], [], fun vals mem np killed => match vals, mem, np, killed with
  | [(.sl 0 0 s1), (.fn 57 [] []), (.int .i64 i2), (.int .i64 j3)], [(.vec 3 (.ri .i64 s4))], 1, [] => .br (k21_l5 F s1 i2 j3 s4).isSome (k21_o5 s1 ((k21_l5 F s1 i2 j3 s4).getD default)) .fail
  | _, _, _, _ => .fail⟩
theorem k21_step5 (F : Nat) (s1 : Nat) (i2 : Int) (j3 : Int) (s4 : List Int) {R : Type} (k : Out → Option R) : stepS tt (k21_tab F) (k21_LS0 F) 70 (k21_ls5 F) (loopAt 5 (bodyOf Tryz.f55)) (k21_st5 s1 i2 j3 s4) k = k21_s5 F s1 R (i2, j3, s4) (fun s => k (.norm (k21_st5 s1 s.1 s.2.1 s.2.2))) (fun x => (k21_o5 s1 x).run k) := by kernel_rfl
theorem k21_iter5 (F : Nat) (s1 : Nat) {R : Type} (k : Out → Option R) : ∀ (n : Nat) (i2 : Int) (j3 : Int) (s4 : List Int), iterS tt (k21_tab F) (k21_LS0 F) 70 (k21_ls5 F) (loopAt 5 (bodyOf Tryz.f55)) n (k21_st5 s1 i2 j3 s4) k = loopC (k21_s5 F s1) n (i2, j3, s4) (fun x => (k21_o5 s1 x).run k)
  | 0, i2, j3, s4 => rfl
  | n + 1, i2, j3, s4 => (iterS_succ tt (k21_tab F) (k21_LS0 F) 70 (k21_ls5 F) (loopAt 5 (bodyOf Tryz.f55)) n (k21_st5 s1 i2 j3 s4) k).trans ((k21_step5 F s1 i2 j3 s4 (nextK (iterS tt (k21_tab F) (k21_LS0 F) 70 (k21_ls5 F) (loopAt 5 (bodyOf Tryz.f55)) n) k)).trans (congrArg (fun kn => k21_s5 F s1 R (i2, j3, s4) kn _) (funext (fun ⟨i2, j3, s4⟩ => k21_iter5 F s1 k n i2 j3 s4))))
theorem k21_lok5 (F : Nat) : LoopOK Tryz.prog (loopAt 5 (bodyOf Tryz.f55)) (k21_ls5 F) := by
  refine loopOK_of mixed ttok deep (k21_tabok F) (loopsOK_at (k21_lsok0 F) 5) (fuel := 70) fun R vals mem np killed k x h => ?_
  simp only [k21_ls5] at h
  split at h
  · rename_i s1 i2 j3 s4
    simp only [GT.run] at h
    have hc := (cond_noneL h).1
    replace h := (cond_noneL h).2
    refine ⟨F, (k21_iter5 F s1 k F i2 j3 s4).trans ((loopC_use (k21_s5_nat F s1) hc _).trans h)⟩
  · simp only [GT.run] at h
    cases h
noncomputable def k21_LS1 (F : Nat) : LT := (5, k21_ls5 F) :: k21_LS0 F
theorem k21_lsok1 (F : Nat) : LoopsOK Tryz.prog (k21_LS1 F) (bodyOf Tryz.f55) := loopsOK_cons k21_keys (k21_lok5 F) (k21_lsok0 F)
theorem k21_run (F : Nat) (s2 : List Int) : runS tt (k21_tab F) (k21_LS1 F) [] [] Tryz.f55 (bodyOf Tryz.f55) 70 [(.sl 0 0 (List.length s2)), (.fn 57 [] [])] [(.vec 3 (.ri .i64 s2))] = k21_c _ F s2 (fun r => some ⟨(.sl 0 0 r.1), [(.vec 3 (.ri .i64 r.2))], []⟩) := by kernel_rfl
def k21_ent (F : Nat) : Ent := ⟨[true], .loud, fun args mem => match args, mem with
  | [(.sl 0 0 q_s1), (.fn 57 [] [])], [(.vec 3 (.ri .i64 s2))] => some (((Nat.beq q_s1 (List.length s2)) && (k21_p F s2).isSome), ⟨(.sl 0 0 ((k21_p F s2).getD default).1), [(.vec 3 (.ri .i64 ((k21_p F s2).getD default).2))], []⟩)
  | _, _ => none⟩
theorem k21_fok : FunOK Tryz.prog 55 := funOK Tryz.func55 (by kernel_rfl) rfl
theorem k21_meets (F : Nat) : Meets Tryz.prog 55 (k21_ent F) := by
  refine meets_of_runS mixed ttok deep (k21_tabok F) Tryz.func55 (body_some rfl) (k21_lsok1 F) fun args mem hfit ret h => ?_
  clear hfit
  simp only [k21_ent] at h
  split at h
  · rename_i q_s1 s2
    simp only [Option.some.injEq, Prod.mk.injEq] at h
    obtain ⟨hc, rfl⟩ := h
    have hg := (and_split hc).1
    replace hc := (and_split hc).2
    obtain rfl := nbeq_nat hg
    exact ⟨[], [], 70, _, (k21_run F s2).trans ((k21_cp _ F s2 _).trans (bind_use hc _)), rfl, rfl, rfl⟩
  · cases h
/-! loop.example/g01194/impl.tiles -/
noncomputable def k108_tab (F : Nat) : Tab := [(56, (slices_Clone_intint_ent F)), (55, (k21_ent F))]
theorem k108_tabok (F : Nat) : TabOK Tryz.prog (k108_tab F) := (tab_cons (slices_Clone_intint_meets F) slices_Clone_intint_fok (tab_cons (k21_meets F) k21_fok tab_nil))
noncomputable def k108_LS0 (F : Nat) : LT := []
theorem k108_lsok0 (F : Nat) : LoopsOK Tryz.prog (k108_LS0 F) (bodyOf Tryz.f27) := loopsOK_nil
theorem k108_run (F : Nat) (g4 : List Int) : runS tt (k108_tab F) (k108_LS0 F) [] [] Tryz.f27 (bodyOf Tryz.f27) 70 [(.ints 4 g4)] [] = k108_c _ F g4 (fun r => some ⟨(.sl 0 0 r.1), [(.vec 3 (.ri .i64 r.2))], []⟩) := by kernel_rfl
def k108_ent (F : Nat) : Ent := ⟨[], .fresh, fun args mem => match args, mem with
  | [(.ints 4 g4)], [] => some ((k108_p F g4).isSome, ⟨(.sl 0 0 ((k108_p F g4).getD default).1), [(.vec 3 (.ri .i64 ((k108_p F g4).getD default).2))], []⟩)
  | _, _ => none⟩
theorem k108_fok : FunOK Tryz.prog 27 := funOK Tryz.func27 (by kernel_rfl) rfl
theorem k108_meets (F : Nat) : Meets Tryz.prog 27 (k108_ent F) := by
  refine meets_of_runS mixed ttok deep (k108_tabok F) Tryz.func27 (body_some rfl) (k108_lsok0 F) fun args mem hfit ret h => ?_
  clear hfit
  simp only [k108_ent] at h
  split at h
  · rename_i g4
    simp only [Option.some.injEq, Prod.mk.injEq] at h
    obtain ⟨hc, rfl⟩ := h
    exact ⟨[], [], 70, _, (k108_run F g4).trans ((k108_cp _ F g4 _).trans (bind_use hc _)), rfl, rfl, rfl⟩
  · cases h
/-! slices.Equal[[]int,int] -/
noncomputable def k34_tab (F : Nat) : Tab := []
theorem k34_tabok (F : Nat) : TabOK Tryz.prog (k34_tab F) := tab_nil
noncomputable def k34_LS0 (F : Nat) : LT := []
theorem k34_lsok0 (F : Nat) : LoopsOK Tryz.prog (k34_LS0 F) (bodyOf Tryz.f88) := loopsOK_nil
theorem k34_keys : keysOK (bodyOf Tryz.f88) = true := by kernel_rfl
def k34_st4 (s10 : List Int) (s21 : List Int) (vq : Int) (yr : Int) : St := ⟨expand 26 0 [0, 1, 12, 13] [(.ri .i64 s10), (.ri .i64 s21), (.int .i64 vq), (.int .i64 yr)], [], 0, []⟩
def k34_o4 (s10 : List Int) (s21 : List Int) (vq : Int) (x : Bool) : GT := (.br x (.out (.ret ⟨expand 26 0 [4] [(.bool false)], [], 0, []⟩)) (.out (.exit 0 ⟨expand 26 0 [] [], [], 0, []⟩)))
def k34_ls4 (F : Nat) : LoopS := ⟨26, [0, 1, 12, 13], [], [], [], [4], [], [], fun vals mem np killed => match vals, mem, np, killed with
  | [(.ri .i64 s10), (.ri .i64 s21), (.int .i64 vq), (.int .i64 yr)], [], 0, [] => .br (k34_l4 F s10 s21 vq yr).isSome (k34_o4 s10 s21 vq ((k34_l4 F s10 s21 vq yr).getD default)) .fail
  | _, _, _, _ => .fail⟩
theorem k34_step4 (F : Nat) (s10 : List Int) (s21 : List Int) (vq : Int) (yr : Int) {R : Type} (k : Out → Option R) : stepS tt (k34_tab F) (k34_LS0 F) 70 (k34_ls4 F) (loopAt 4 (bodyOf Tryz.f88)) (k34_st4 s10 s21 vq yr) k = k34_s4 F s10 s21 vq R yr (fun s => k (.norm (k34_st4 s10 s21 vq s))) (fun x => (k34_o4 s10 s21 vq x).run k) := by kernel_rfl
theorem k34_iter4 (F : Nat) (s10 : List Int) (s21 : List Int) (vq : Int) {R : Type} (k : Out → Option R) : ∀ (n : Nat) (yr : Int), iterS tt (k34_tab F) (k34_LS0 F) 70 (k34_ls4 F) (loopAt 4 (bodyOf Tryz.f88)) n (k34_st4 s10 s21 vq yr) k = loopC (k34_s4 F s10 s21 vq) n yr (fun x => (k34_o4 s10 s21 vq x).run k)
  | 0, yr => rfl
  | n + 1, yr => (iterS_succ tt (k34_tab F) (k34_LS0 F) 70 (k34_ls4 F) (loopAt 4 (bodyOf Tryz.f88)) n (k34_st4 s10 s21 vq yr) k).trans ((k34_step4 F s10 s21 vq yr (nextK (iterS tt (k34_tab F) (k34_LS0 F) 70 (k34_ls4 F) (loopAt 4 (bodyOf Tryz.f88)) n) k)).trans (congrArg (fun kn => k34_s4 F s10 s21 vq R yr kn _) (funext (fun yr => k34_iter4 F s10 s21 vq k n yr))))
theorem k34_lok4 (F : Nat) : LoopOK Tryz.prog (loopAt 4 (bodyOf Tryz.f88)) (k34_ls4 F) := by
  refine loopOK_of mixed ttok deep (k34_tabok F) (loopsOK_at (k34_lsok0 F) 4) (fuel := 70) fun R vals mem np killed k x h => ?_
  simp only [k34_ls4] at h
  split at h
  · rename_i s10 s21 vq yr
    simp only [GT.run] at h
    have hc := (cond_noneL h).1
    replace h := (cond_noneL h).2
    refine ⟨F, (k34_iter4 F s10 s21 vq k F yr).trans ((loopC_use (k34_s4_nat F s10 s21 vq) hc _).trans h)⟩
  · simp only [GT.run] at h
    cases h
noncomputable def k34_LS1 (F : Nat) : LT := (4, k34_ls4 F) :: k34_LS0 F
theorem k34_lsok1 (F : Nat) : LoopsOK Tryz.prog (k34_LS1 F) (bodyOf Tryz.f88) := loopsOK_cons k34_keys (k34_lok4 F) (k34_lsok0 F)
theorem k34_run (F : Nat) (s10 : List Int) (s21 : List Int) : runS tt (k34_tab F) (k34_LS1 F) [] [] Tryz.f88 (bodyOf Tryz.f88) 70 [(.ri .i64 s10), (.ri .i64 s21)] [] = k34_c _ F s10 s21 (fun r => some ⟨(.bool r), [], []⟩) := by kernel_rfl
def k34_ent (F : Nat) : Ent := ⟨[], .quiet, fun args mem => match args, mem with
  | [(.ri .i64 s10), (.ri .i64 s21)], [] => some ((k34_p F s10 s21).isSome, ⟨(.bool ((k34_p F s10 s21).getD default)), [], []⟩)
  | _, _ => none⟩
theorem k34_fok : FunOK Tryz.prog 88 := funOK Tryz.func88 (by kernel_rfl) rfl
theorem k34_meets (F : Nat) : Meets Tryz.prog 88 (k34_ent F) := by
  refine meets_of_runS mixed ttok deep (k34_tabok F) Tryz.func88 (body_some rfl) (k34_lsok1 F) fun args mem hfit ret h => ?_
  clear hfit
  simp only [k34_ent] at h
  split at h
  · rename_i s10 s21
    simp only [Option.some.injEq, Prod.mk.injEq] at h
    obtain ⟨hc, rfl⟩ := h
    exact ⟨[], [], 70, _, (k34_run F s10 s21).trans ((k34_cp _ F s10 s21 _).trans (bind_use hc _)), rfl, rfl, rfl⟩
  · cases h
/-! loop.example/g01194/impl.isFlush -/
noncomputable def k90_tab (F : Nat) : Tab := [(27, (k108_ent F)), (88, (k34_ent F))]
theorem k90_tabok (F : Nat) : TabOK Tryz.prog (k90_tab F) := (tab_cons (k108_meets F) k108_fok (tab_cons (k34_meets F) k34_fok tab_nil))
noncomputable def k90_LS0 (F : Nat) : LT := []
theorem k90_lsok0 (F : Nat) : LoopsOK Tryz.prog (k90_LS0 F) (bodyOf Tryz.f74) := loopsOK_nil
theorem k90_run (F : Nat) (g4 : List Int) : runS tt (k90_tab F) (k90_LS0 F) [] [] Tryz.f74 (bodyOf Tryz.f74) 70 [(.ints 4 g4)] [] = k90_c _ F g4 (fun r => some ⟨(.bool r), [], []⟩) := by kernel_rfl
def k90_ent (F : Nat) : Ent := ⟨[], .quiet, fun args mem => match args, mem with
  | [(.ints 4 g4)], [] => some ((k90_p F g4).isSome, ⟨(.bool ((k90_p F g4).getD default)), [], []⟩)
  | _, _ => none⟩
theorem k90_fok : FunOK Tryz.prog 74 := funOK Tryz.func74 (by kernel_rfl) rfl
theorem k90_meets (F : Nat) : Meets Tryz.prog 74 (k90_ent F) := by
  refine meets_of_runS mixed ttok deep (k90_tabok F) Tryz.func74 (body_some rfl) (k90_lsok0 F) fun args mem hfit ret h => ?_
  clear hfit
  simp only [k90_ent] at h
  split at h
  · rename_i g4
    simp only [Option.some.injEq, Prod.mk.injEq] at h
    obtain ⟨hc, rfl⟩ := h
    exact ⟨[], [], 70, _, (k90_run F g4).trans ((k90_cp _ F g4 _).trans (bind_use hc _)), rfl, rfl, rfl⟩
  · cases h
/-! slices.Clone[[]int,int], of nothing -/
def slices_Clone_intint_2_ent (F : Nat) : Ent := ⟨[], .fresh, fun args mem => match args, mem with
  | [.z0], [] => some (true, ⟨.sl 0 0 0, [.vec 3 (.ri .i64 [])], []⟩)
  | _, _ => none⟩
theorem slices_Clone_intint_2_fok : FunOK Tryz.prog 56 := funOK Tryz.func56 (by kernel_rfl) rfl
theorem slices_Clone_intint_2_meets (F : Nat) : Meets Tryz.prog 56 (slices_Clone_intint_2_ent F) := by
  intro fr w ρ mem args reals hw ha ret hg
  simp only [slices_Clone_intint_2_ent] at hg
  split at hg
  · simp only [Option.some.injEq, Prod.mk.injEq, true_and] at hg
    subst hg
    cases ha with
    | cons h hr =>
      cases hr
      obtain ⟨ad, rfl⟩ := h
      exact slices_Clone_intint_meets F fr w ρ [] [(.ri .i64 [])] _ hw (.cons (show RoR w ρ [] [] 1 0 _ from ⟨ad, 0, rfl, Nat.le_refl _, rfl, fun h => absurd rfl h⟩) .nil) _ (by kernel_rfl)
  · cases hg
/-! loop.example/g01194/impl.apart -/
noncomputable def k61_tab (F : Nat) : Tab := [(56, (slices_Clone_intint_2_ent F))]
theorem k61_tabok (F : Nat) : TabOK Tryz.prog (k61_tab F) := (tab_cons (slices_Clone_intint_2_meets F) slices_Clone_intint_2_fok tab_nil)
noncomputable def k61_LS0 (F : Nat) : LT := []
theorem k61_lsok0 (F : Nat) : LoopsOK Tryz.prog (k61_LS0 F) (bodyOf Tryz.f75) := loopsOK_nil
theorem k61_run (F : Nat) : runS tt (k61_tab F) (k61_LS0 F) [] [] Tryz.f75 (bodyOf Tryz.f75) 70 [.z0, .z0, (.ri .i64 ([] : List Int))] [] = k61_c _ (fun r => some ⟨(.sl 0 0 1), [(.vec 49 (.rl .i64 [([] : List Int)]))], []⟩) := by kernel_rfl
def k61_ent (F : Nat) : Ent := ⟨[true], .loud, fun args mem => match args, mem with
  | [.z0, .z0, (.ri .i64 ([] : List Int))], [] => some (true, ⟨(.sl 0 0 1), [(.vec 49 (.rl .i64 [([] : List Int)]))], []⟩)
  | _, _ => none⟩
theorem k61_fok : FunOK Tryz.prog 75 := funOK Tryz.func75 (by kernel_rfl) rfl
theorem k61_meets (F : Nat) : Meets Tryz.prog 75 (k61_ent F) := by
  refine meets_of_runS mixed ttok deep (k61_tabok F) Tryz.func75 (body_some rfl) (k61_lsok0 F) fun args mem hfit ret h => ?_
  clear hfit
  simp only [k61_ent] at h
  split at h
  · simp only [Option.some.injEq, Prod.mk.injEq] at h
    obtain ⟨hc, rfl⟩ := h
    exact ⟨[], [], 70, _, (k61_run F).trans (k61_cv _ _), rfl, rfl, rfl⟩
  · cases h
/-! loop.example/g01194/impl.apart -/
noncomputable def k41_tab (F : Nat) : Tab := [(56, (slices_Clone_intint_ent F))]
theorem k41_tabok (F : Nat) : TabOK Tryz.prog (k41_tab F) := (tab_cons (slices_Clone_intint_meets F) slices_Clone_intint_fok tab_nil)
noncomputable def k41_LS0 (F : Nat) : LT := []
theorem k41_lsok0 (F : Nat) : LoopsOK Tryz.prog (k41_LS0 F) (bodyOf Tryz.f75) := loopsOK_nil
theorem k41_run (F : Nat) (list0 : List Int) : runS tt (k41_tab F) (k41_LS0 F) [⟨6, 49, (.rl .i64 ([] : List (List Int)))⟩] [] Tryz.f75 (bodyOf Tryz.f75) 70 [.z0, (.ri .i64 list0), (.ri .i64 ([] : List Int))] [] = k41_c _ list0 (fun r => some ⟨(.sl 0 0 (List.length r)), [(.vec 49 (.rl .i64 r))], []⟩) := by kernel_rfl
def k41_ent (F : Nat) : Ent := ⟨[true], .loud, fun args mem => match args, mem with
  | [.z0, (.ri .i64 list0), (.ri .i64 ([] : List Int))], [] => some ((k41_p list0).isSome, ⟨(.sl 0 0 (List.length ((k41_p list0).getD default))), [(.vec 49 (.rl .i64 ((k41_p list0).getD default)))], []⟩)
  | _, _ => none⟩
theorem k41_fok : FunOK Tryz.prog 75 := funOK Tryz.func75 (by kernel_rfl) rfl
theorem k41_meets (F : Nat) : Meets Tryz.prog 75 (k41_ent F) := by
  refine meets_of_runS mixed ttok deep (k41_tabok F) Tryz.func75 (body_some rfl) (k41_lsok0 F) fun args mem hfit ret h => ?_
  clear hfit
  simp only [k41_ent] at h
  split at h
  · rename_i list0
    simp only [Option.some.injEq, Prod.mk.injEq] at h
    obtain ⟨hc, rfl⟩ := h
    exact ⟨[⟨6, 49, (.rl .i64 ([] : List (List Int)))⟩], [], 70, _, (k41_run F list0).trans ((k41_cp _ list0 _).trans (bind_use hc _)), rfl, rfl, rfl⟩
  · cases h
/-! loop.example/g01194/impl.apart -/
noncomputable def k42_tab (F : Nat) : Tab := [(56, (slices_Clone_intint_ent F))]
theorem k42_tabok (F : Nat) : TabOK Tryz.prog (k42_tab F) := (tab_cons (slices_Clone_intint_meets F) slices_Clone_intint_fok tab_nil)
noncomputable def k42_LS0 (F : Nat) : LT := []
theorem k42_lsok0 (F : Nat) : LoopsOK Tryz.prog (k42_LS0 F) (bodyOf Tryz.f75) := loopsOK_nil
theorem k42_run (F : Nat) (list2 : List Int) (j5 : List (List Int)) : runS tt (k42_tab F) (k42_LS0 F) [] [0] Tryz.f75 (bodyOf Tryz.f75) 70 [(.sl 0 0 (List.length j5)), (.ri .i64 list2), (.ri .i64 ([] : List Int))] [(.vec 49 (.rl .i64 j5))] = k42_c _ list2 j5 (fun r => some ⟨(.sl 0 0 (List.length r)), [(.vec 49 (.rl .i64 r))], [0]⟩) := by kernel_rfl
def k42_ent (F : Nat) : Ent := ⟨[true], .loud, fun args mem => match args, mem with
  | [(.sl 0 0 q_out1), (.ri .i64 list2), (.ri .i64 ([] : List Int))], [(.vec 49 (.rl .i64 j5))] => some (((Nat.beq q_out1 (List.length j5)) && (k42_p list2 j5).isSome), ⟨(.sl 0 0 (List.length ((k42_p list2 j5).getD default))), [(.vec 49 (.rl .i64 ((k42_p list2 j5).getD default)))], [0]⟩)
  | _, _ => none⟩
theorem k42_fok : FunOK Tryz.prog 75 := funOK Tryz.func75 (by kernel_rfl) rfl
theorem k42_meets (F : Nat) : Meets Tryz.prog 75 (k42_ent F) := by
  refine meets_of_runS mixed ttok deep (k42_tabok F) Tryz.func75 (body_some rfl) (k42_lsok0 F) fun args mem hfit ret h => ?_
  clear hfit
  simp only [k42_ent] at h
  split at h
  · rename_i q_out1 list2 j5
    simp only [Option.some.injEq, Prod.mk.injEq] at h
    obtain ⟨hc, rfl⟩ := h
    have hg := (and_split hc).1
    replace hc := (and_split hc).2
    obtain rfl := nbeq_nat hg
    exact ⟨[], [0], 70, _, (k42_run F list2 j5).trans ((k42_cp _ list2 j5 _).trans (bind_use hc _)), rfl, rfl, rfl⟩
  · cases h
/-! loop.example/g01194/impl.apart -/
noncomputable def k62_tab (F : Nat) : Tab := [(56, (slices_Clone_intint_2_ent F)), (75, (orEnt (k41_ent F) (k42_ent F)))]
theorem k62_tabok (F : Nat) : TabOK Tryz.prog (k62_tab F) := (tab_cons (slices_Clone_intint_2_meets F) slices_Clone_intint_2_fok (tab_cons (meets_or (k41_meets F) (k42_meets F) rfl) k41_fok tab_nil))
noncomputable def k62_LS0 (F : Nat) : LT := []
theorem k62_lsok0 (F : Nat) : LoopsOK Tryz.prog (k62_LS0 F) (bodyOf Tryz.f75) := loopsOK_nil
theorem k62_run (F : Nat) (rest0_0 : Int) : runS tt (k62_tab F) (k62_LS0 F) [] [] Tryz.f75 (bodyOf Tryz.f75) 70 [.z0, .z0, (.ri .i64 [rest0_0])] [] = k62_c _ rest0_0 (fun r => some ⟨(.sl 0 0 (List.length r)), [(.vec 49 (.rl .i64 r))], []⟩) := by kernel_rfl
def k62_ent (F : Nat) : Ent := ⟨[true], .loud, fun args mem => match args, mem with
  | [.z0, .z0, (.ri .i64 [rest0_0])], [] => some ((k62_p rest0_0).isSome, ⟨(.sl 0 0 (List.length ((k62_p rest0_0).getD default))), [(.vec 49 (.rl .i64 ((k62_p rest0_0).getD default)))], []⟩)
  | _, _ => none⟩
theorem k62_fok : FunOK Tryz.prog 75 := funOK Tryz.func75 (by kernel_rfl) rfl
theorem k62_meets (F : Nat) : Meets Tryz.prog 75 (k62_ent F) := by
  refine meets_of_runS mixed ttok deep (k62_tabok F) Tryz.func75 (body_some rfl) (k62_lsok0 F) fun args mem hfit ret h => ?_
  clear hfit
  simp only [k62_ent] at h
  split at h
  · rename_i rest0_0
    simp only [Option.some.injEq, Prod.mk.injEq] at h
    obtain ⟨hc, rfl⟩ := h
    exact ⟨[], [], 70, _, (k62_run F rest0_0).trans ((k62_cp _ rest0_0 _).trans (bind_use hc _)), rfl, rfl, rfl⟩
  · cases h
/-! loop.example/g01194/impl.apart -/
noncomputable def k43_tab (F : Nat) : Tab := [(56, (slices_Clone_intint_ent F)), (75, (orEnt (k41_ent F) (k42_ent F)))]
theorem k43_tabok (F : Nat) : TabOK Tryz.prog (k43_tab F) := (tab_cons (slices_Clone_intint_meets F) slices_Clone_intint_fok (tab_cons (meets_or (k41_meets F) (k42_meets F) rfl) k41_fok tab_nil))
noncomputable def k43_LS0 (F : Nat) : LT := []
theorem k43_lsok0 (F : Nat) : LoopsOK Tryz.prog (k43_LS0 F) (bodyOf Tryz.f75) := loopsOK_nil
theorem k43_run (F : Nat) (list0 : List Int) (rest1_0 : Int) : runS tt (k43_tab F) (k43_LS0 F) [⟨6, 49, (.rl .i64 ([] : List (List Int)))⟩] [] Tryz.f75 (bodyOf Tryz.f75) 70 [.z0, (.ri .i64 list0), (.ri .i64 [rest1_0])] [] = k43_c _ list0 rest1_0 (fun r => some ⟨(.sl 0 0 (List.length r)), [(.vec 49 (.rl .i64 r))], []⟩) := by kernel_rfl
def k43_ent (F : Nat) : Ent := ⟨[true], .loud, fun args mem => match args, mem with
  | [.z0, (.ri .i64 list0), (.ri .i64 [rest1_0])], [] => some ((k43_p list0 rest1_0).isSome, ⟨(.sl 0 0 (List.length ((k43_p list0 rest1_0).getD default))), [(.vec 49 (.rl .i64 ((k43_p list0 rest1_0).getD default)))], []⟩)
  | _, _ => none⟩
theorem k43_fok : FunOK Tryz.prog 75 := funOK Tryz.func75 (by kernel_rfl) rfl
theorem k43_meets (F : Nat) : Meets Tryz.prog 75 (k43_ent F) := by
  refine meets_of_runS mixed ttok deep (k43_tabok F) Tryz.func75 (body_some rfl) (k43_lsok0 F) fun args mem hfit ret h => ?_
  clear hfit
  simp only [k43_ent] at h
  split at h
  · rename_i list0 rest1_0
    simp only [Option.some.injEq, Prod.mk.injEq] at h
    obtain ⟨hc, rfl⟩ := h
    exact ⟨[⟨6, 49, (.rl .i64 ([] : List (List Int)))⟩], [], 70, _, (k43_run F list0 rest1_0).trans ((k43_cp _ list0 rest1_0 _).trans (bind_use hc _)), rfl, rfl, rfl⟩
  · cases h
/-! loop.example/g01194/impl.apart -/
noncomputable def k44_tab (F : Nat) : Tab := [(56, (slices_Clone_intint_ent F)), (75, (k42_ent F))]
theorem k44_tabok (F : Nat) : TabOK Tryz.prog (k44_tab F) := (tab_cons (slices_Clone_intint_meets F) slices_Clone_intint_fok (tab_cons (k42_meets F) k42_fok tab_nil))
noncomputable def k44_LS0 (F : Nat) : LT := []
theorem k44_lsok0 (F : Nat) : LoopsOK Tryz.prog (k44_LS0 F) (bodyOf Tryz.f75) := loopsOK_nil
theorem k44_run (F : Nat) (list2 : List Int) (rest3_0 : Int) (j5 : List (List Int)) : runS tt (k44_tab F) (k44_LS0 F) [] [0] Tryz.f75 (bodyOf Tryz.f75) 70 [(.sl 0 0 (List.length j5)), (.ri .i64 list2), (.ri .i64 [rest3_0])] [(.vec 49 (.rl .i64 j5))] = k44_c _ list2 rest3_0 j5 (fun r => some ⟨(.sl 0 0 (List.length r)), [(.vec 49 (.rl .i64 r))], [0]⟩) := by kernel_rfl
def k44_ent (F : Nat) : Ent := ⟨[true], .loud, fun args mem => match args, mem with
  | [(.sl 0 0 q_out1), (.ri .i64 list2), (.ri .i64 [rest3_0])], [(.vec 49 (.rl .i64 j5))] => some (((Nat.beq q_out1 (List.length j5)) && (k44_p list2 rest3_0 j5).isSome), ⟨(.sl 0 0 (List.length ((k44_p list2 rest3_0 j5).getD default))), [(.vec 49 (.rl .i64 ((k44_p list2 rest3_0 j5).getD default)))], [0]⟩)
  | _, _ => none⟩
theorem k44_fok : FunOK Tryz.prog 75 := funOK Tryz.func75 (by kernel_rfl) rfl
theorem k44_meets (F : Nat) : Meets Tryz.prog 75 (k44_ent F) := by
  refine meets_of_runS mixed ttok deep (k44_tabok F) Tryz.func75 (body_some rfl) (k44_lsok0 F) fun args mem hfit ret h => ?_
  clear hfit
  simp only [k44_ent] at h
  split at h
  · rename_i q_out1 list2 rest3_0 j5
    simp only [Option.some.injEq, Prod.mk.injEq] at h
    obtain ⟨hc, rfl⟩ := h
    have hg := (and_split hc).1
    replace hc := (and_split hc).2
    obtain rfl := nbeq_nat hg
    exact ⟨[], [0], 70, _, (k44_run F list2 rest3_0 j5).trans ((k44_cp _ list2 rest3_0 j5 _).trans (bind_use hc _)), rfl, rfl, rfl⟩
  · cases h
/-! loop.example/g01194/impl.apart -/
noncomputable def k63_tab (F : Nat) : Tab := [(56, (slices_Clone_intint_2_ent F)), (75, (orEnt (k43_ent F) (k44_ent F)))]
theorem k63_tabok (F : Nat) : TabOK Tryz.prog (k63_tab F) := (tab_cons (slices_Clone_intint_2_meets F) slices_Clone_intint_2_fok (tab_cons (meets_or (k43_meets F) (k44_meets F) rfl) k43_fok tab_nil))
noncomputable def k63_LS0 (F : Nat) : LT := []
theorem k63_lsok0 (F : Nat) : LoopsOK Tryz.prog (k63_LS0 F) (bodyOf Tryz.f75) := loopsOK_nil
theorem k63_run (F : Nat) (rest0_0 : Int) (rest0_1 : Int) : runS tt (k63_tab F) (k63_LS0 F) [] [] Tryz.f75 (bodyOf Tryz.f75) 70 [.z0, .z0, (.ri .i64 [rest0_0, rest0_1])] [] = k63_c _ rest0_0 rest0_1 (fun r => some ⟨(.sl 0 0 (List.length r)), [(.vec 49 (.rl .i64 r))], []⟩) := by kernel_rfl
def k63_ent (F : Nat) : Ent := ⟨[true], .loud, fun args mem => match args, mem with
  | [.z0, .z0, (.ri .i64 [rest0_0, rest0_1])], [] => some ((k63_p rest0_0 rest0_1).isSome, ⟨(.sl 0 0 (List.length ((k63_p rest0_0 rest0_1).getD default))), [(.vec 49 (.rl .i64 ((k63_p rest0_0 rest0_1).getD default)))], []⟩)
  | _, _ => none⟩
theorem k63_fok : FunOK Tryz.prog 75 := funOK Tryz.func75 (by kernel_rfl) rfl
theorem k63_meets (F : Nat) : Meets Tryz.prog 75 (k63_ent F) := by
  refine meets_of_runS mixed ttok deep (k63_tabok F) Tryz.func75 (body_some rfl) (k63_lsok0 F) fun args mem hfit ret h => ?_
  clear hfit
  simp only [k63_ent] at h
  split at h
  · rename_i rest0_0 rest0_1
    simp only [Option.some.injEq, Prod.mk.injEq] at h
    obtain ⟨hc, rfl⟩ := h
    exact ⟨[], [], 70, _, (k63_run F rest0_0 rest0_1).trans ((k63_cp _ rest0_0 rest0_1 _).trans (bind_use hc _)), rfl, rfl, rfl⟩
  · cases h
/-! loop.example/g01194/impl.apart -/
noncomputable def k45_tab (F : Nat) : Tab := [(56, (slices_Clone_intint_ent F)), (75, (orEnt (k43_ent F) (k44_ent F)))]
theorem k45_tabok (F : Nat) : TabOK Tryz.prog (k45_tab F) := (tab_cons (slices_Clone_intint_meets F) slices_Clone_intint_fok (tab_cons (meets_or (k43_meets F) (k44_meets F) rfl) k43_fok tab_nil))
noncomputable def k45_LS0 (F : Nat) : LT := []
theorem k45_lsok0 (F : Nat) : LoopsOK Tryz.prog (k45_LS0 F) (bodyOf Tryz.f75) := loopsOK_nil
theorem k45_run (F : Nat) (list0 : List Int) (rest1_0 : Int) (rest1_1 : Int) : runS tt (k45_tab F) (k45_LS0 F) [⟨6, 49, (.rl .i64 ([] : List (List Int)))⟩] [] Tryz.f75 (bodyOf Tryz.f75) 70 [.z0, (.ri .i64 list0), (.ri .i64 [rest1_0, rest1_1])] [] = k45_c _ list0 rest1_0 rest1_1 (fun r => some ⟨(.sl 0 0 (List.length r)), [(.vec 49 (.rl .i64 r))], []⟩) := by kernel_rfl
def k45_ent (F : Nat) : Ent := ⟨[true], .loud, fun args mem => match args, mem with
  | [.z0, (.ri .i64 list0), (.ri .i64 [rest1_0, rest1_1])], [] => some ((k45_p list0 rest1_0 rest1_1).isSome, ⟨(.sl 0 0 (List.length ((k45_p list0 rest1_0 rest1_1).getD default))), [(.vec 49 (.rl .i64 ((k45_p list0 rest1_0 rest1_1).getD default)))], []⟩)
  | _, _ => none⟩
theorem k45_fok : FunOK Tryz.prog 75 := funOK Tryz.func75 (by kernel_rfl) rfl
theorem k45_meets (F : Nat) : Meets Tryz.prog 75 (k45_ent F) := by
  refine meets_of_runS mixed ttok deep (k45_tabok F) Tryz.func75 (body_some rfl) (k45_lsok0 F) fun args mem hfit ret h => ?_
  clear hfit
  simp only [k45_ent] at h
  split at h
  · rename_i list0 rest1_0 rest1_1
    simp only [Option.some.injEq, Prod.mk.injEq] at h
    obtain ⟨hc, rfl⟩ := h
    exact ⟨[⟨6, 49, (.rl .i64 ([] : List (List Int)))⟩], [], 70, _, (k45_run F list0 rest1_0 rest1_1).trans ((k45_cp _ list0 rest1_0 rest1_1 _).trans (bind_use hc _)), rfl, rfl, rfl⟩
  · cases h
/-! loop.example/g01194/impl.apart -/
noncomputable def k46_tab (F : Nat) : Tab := [(56, (slices_Clone_intint_ent F)), (75, (k44_ent F))]
theorem k46_tabok (F : Nat) : TabOK Tryz.prog (k46_tab F) := (tab_cons (slices_Clone_intint_meets F) slices_Clone_intint_fok (tab_cons (k44_meets F) k44_fok tab_nil))
noncomputable def k46_LS0 (F : Nat) : LT := []
theorem k46_lsok0 (F : Nat) : LoopsOK Tryz.prog (k46_LS0 F) (bodyOf Tryz.f75) := loopsOK_nil
theorem k46_run (F : Nat) (list2 : List Int) (rest3_0 : Int) (rest3_1 : Int) (j5 : List (List Int)) : runS tt (k46_tab F) (k46_LS0 F) [] [0] Tryz.f75 (bodyOf Tryz.f75) 70 [(.sl 0 0 (List.length j5)), (.ri .i64 list2), (.ri .i64 [rest3_0, rest3_1])] [(.vec 49 (.rl .i64 j5))] = k46_c _ list2 rest3_0 rest3_1 j5 (fun r => some ⟨(.sl 0 0 (List.length r)), [(.vec 49 (.rl .i64 r))], [0]⟩) := by kernel_rfl
def k46_ent (F : Nat) : Ent := ⟨[true], .loud, fun args mem => match args, mem with
  | [(.sl 0 0 q_out1), (.ri .i64 list2), (.ri .i64 [rest3_0, rest3_1])], [(.vec 49 (.rl .i64 j5))] => some (((Nat.beq q_out1 (List.length j5)) && (k46_p list2 rest3_0 rest3_1 j5).isSome), ⟨(.sl 0 0 (List.length ((k46_p list2 rest3_0 rest3_1 j5).getD default))), [(.vec 49 (.rl .i64 ((k46_p list2 rest3_0 rest3_1 j5).getD default)))], [0]⟩)
  | _, _ => none⟩
theorem k46_fok : FunOK Tryz.prog 75 := funOK Tryz.func75 (by kernel_rfl) rfl
theorem k46_meets (F : Nat) : Meets Tryz.prog 75 (k46_ent F) := by
  refine meets_of_runS mixed ttok deep (k46_tabok F) Tryz.func75 (body_some rfl) (k46_lsok0 F) fun args mem hfit ret h => ?_
  clear hfit
  simp only [k46_ent] at h
  split at h
  · rename_i q_out1 list2 rest3_0 rest3_1 j5
    simp only [Option.some.injEq, Prod.mk.injEq] at h
    obtain ⟨hc, rfl⟩ := h
    have hg := (and_split hc).1
    replace hc := (and_split hc).2
    obtain rfl := nbeq_nat hg
    exact ⟨[], [0], 70, _, (k46_run F list2 rest3_0 rest3_1 j5).trans ((k46_cp _ list2 rest3_0 rest3_1 j5 _).trans (bind_use hc _)), rfl, rfl, rfl⟩
  · cases h
/-! loop.example/g01194/impl.apart -/
noncomputable def k64_tab (F : Nat) : Tab := [(56, (slices_Clone_intint_2_ent F)), (75, (orEnt (k45_ent F) (k46_ent F)))]
theorem k64_tabok (F : Nat) : TabOK Tryz.prog (k64_tab F) := (tab_cons (slices_Clone_intint_2_meets F) slices_Clone_intint_2_fok (tab_cons (meets_or (k45_meets F) (k46_meets F) rfl) k45_fok tab_nil))
noncomputable def k64_LS0 (F : Nat) : LT := []
theorem k64_lsok0 (F : Nat) : LoopsOK Tryz.prog (k64_LS0 F) (bodyOf Tryz.f75) := loopsOK_nil
theorem k64_run (F : Nat) (rest0_0 : Int) (rest0_1 : Int) (rest0_2 : Int) : runS tt (k64_tab F) (k64_LS0 F) [] [] Tryz.f75 (bodyOf Tryz.f75) 70 [.z0, .z0, (.ri .i64 [rest0_0, rest0_1, rest0_2])] [] = k64_c _ rest0_0 rest0_1 rest0_2 (fun r => some ⟨(.sl 0 0 (List.length r)), [(.vec 49 (.rl .i64 r))], []⟩) := by kernel_rfl
def k64_ent (F : Nat) : Ent := ⟨[true], .loud, fun args mem => match args, mem with
  | [.z0, .z0, (.ri .i64 [rest0_0, rest0_1, rest0_2])], [] => some ((k64_p rest0_0 rest0_1 rest0_2).isSome, ⟨(.sl 0 0 (List.length ((k64_p rest0_0 rest0_1 rest0_2).getD default))), [(.vec 49 (.rl .i64 ((k64_p rest0_0 rest0_1 rest0_2).getD default)))], []⟩)
  | _, _ => none⟩
theorem k64_fok : FunOK Tryz.prog 75 := funOK Tryz.func75 (by kernel_rfl) rfl
theorem k64_meets (F : Nat) : Meets Tryz.prog 75 (k64_ent F) := by
  refine meets_of_runS mixed ttok deep (k64_tabok F) Tryz.func75 (body_some rfl) (k64_lsok0 F) fun args mem hfit ret h => ?_
  clear hfit
  simp only [k64_ent] at h
  split at h
  · rename_i rest0_0 rest0_1 rest0_2
    simp only [Option.some.injEq, Prod.mk.injEq] at h
    obtain ⟨hc, rfl⟩ := h
    exact ⟨[], [], 70, _, (k64_run F rest0_0 rest0_1 rest0_2).trans ((k64_cp _ rest0_0 rest0_1 rest0_2 _).trans (bind_use hc _)), rfl, rfl, rfl⟩
  · cases h
/-! loop.example/g01194/impl.apart -/
noncomputable def k47_tab (F : Nat) : Tab := [(56, (slices_Clone_intint_ent F)), (75, (orEnt (k45_ent F) (k46_ent F)))]
theorem k47_tabok (F : Nat) : TabOK Tryz.prog (k47_tab F) := (tab_cons (slices_Clone_intint_meets F) slices_Clone_intint_fok (tab_cons (meets_or (k45_meets F) (k46_meets F) rfl) k45_fok tab_nil))
noncomputable def k47_LS0 (F : Nat) : LT := []
theorem k47_lsok0 (F : Nat) : LoopsOK Tryz.prog (k47_LS0 F) (bodyOf Tryz.f75) := loopsOK_nil
theorem k47_run (F : Nat) (list0 : List Int) (rest1_0 : Int) (rest1_1 : Int) (rest1_2 : Int) : runS tt (k47_tab F) (k47_LS0 F) [⟨6, 49, (.rl .i64 ([] : List (List Int)))⟩] [] Tryz.f75 (bodyOf Tryz.f75) 70 [.z0, (.ri .i64 list0), (.ri .i64 [rest1_0, rest1_1, rest1_2])] [] = k47_c _ list0 rest1_0 rest1_1 rest1_2 (fun r => some ⟨(.sl 0 0 (List.length r)), [(.vec 49 (.rl .i64 r))], []⟩) := by kernel_rfl
def k47_ent (F : Nat) : Ent := ⟨[true], .loud, fun args mem => match args, mem with
  | [.z0, (.ri .i64 list0), (.ri .i64 [rest1_0, rest1_1, rest1_2])], [] => some ((k47_p list0 rest1_0 rest1_1 rest1_2).isSome, ⟨(.sl 0 0 (List.length ((k47_p list0 rest1_0 rest1_1 rest1_2).getD default))), [(.vec 49 (.rl .i64 ((k47_p list0 rest1_0 rest1_1 rest1_2).getD default)))], []⟩)
  | _, _ => none⟩
theorem k47_fok : FunOK Tryz.prog 75 := funOK Tryz.func75 (by kernel_rfl) rfl
theorem k47_meets (F : Nat) : Meets Tryz.prog 75 (k47_ent F) := by
  refine meets_of_runS mixed ttok deep (k47_tabok F) Tryz.func75 (body_some rfl) (k47_lsok0 F) fun args mem hfit ret h => ?_
  clear hfit
  simp only [k47_ent] at h
  split at h
  · rename_i list0 rest1_0 rest1_1 rest1_2
    simp only [Option.some.injEq, Prod.mk.injEq] at h
    obtain ⟨hc, rfl⟩ := h
    exact ⟨[⟨6, 49, (.rl .i64 ([] : List (List Int)))⟩], [], 70, _, (k47_run F list0 rest1_0 rest1_1 rest1_2).trans ((k47_cp _ list0 rest1_0 rest1_1 rest1_2 _).trans (bind_use hc _)), rfl, rfl, rfl⟩
  · cases h
/-! loop.example/g01194/impl.apart -/
noncomputable def k48_tab (F : Nat) : Tab := [(56, (slices_Clone_intint_ent F)), (75, (k46_ent F))]
theorem k48_tabok (F : Nat) : TabOK Tryz.prog (k48_tab F) := (tab_cons (slices_Clone_intint_meets F) slices_Clone_intint_fok (tab_cons (k46_meets F) k46_fok tab_nil))
noncomputable def k48_LS0 (F : Nat) : LT := []
theorem k48_lsok0 (F : Nat) : LoopsOK Tryz.prog (k48_LS0 F) (bodyOf Tryz.f75) := loopsOK_nil
theorem k48_run (F : Nat) (list2 : List Int) (rest3_0 : Int) (rest3_1 : Int) (rest3_2 : Int) (j5 : List (List Int)) : runS tt (k48_tab F) (k48_LS0 F) [] [0] Tryz.f75 (bodyOf Tryz.f75) 70 [(.sl 0 0 (List.length j5)), (.ri .i64 list2), (.ri .i64 [rest3_0, rest3_1, rest3_2])] [(.vec 49 (.rl .i64 j5))] = k48_c _ list2 rest3_0 rest3_1 rest3_2 j5 (fun r => some ⟨(.sl 0 0 (List.length r)), [(.vec 49 (.rl .i64 r))], [0]⟩) := by kernel_rfl
def k48_ent (F : Nat) : Ent := ⟨[true], .loud, fun args mem => match args, mem with
  | [(.sl 0 0 q_out1), (.ri .i64 list2), (.ri .i64 [rest3_0, rest3_1, rest3_2])], [(.vec 49 (.rl .i64 j5))] => some (((Nat.beq q_out1 (List.length j5)) && (k48_p list2 rest3_0 rest3_1 rest3_2 j5).isSome), ⟨(.sl 0 0 (List.length ((k48_p list2 rest3_0 rest3_1 rest3_2 j5).getD default))), [(.vec 49 (.rl .i64 ((k48_p list2 rest3_0 rest3_1 rest3_2 j5).getD default)))], [0]⟩)
  | _, _ => none⟩
theorem k48_fok : FunOK Tryz.prog 75 := funOK Tryz.func75 (by kernel_rfl) rfl
theorem k48_meets (F : Nat) : Meets Tryz.prog 75 (k48_ent F) := by
  refine meets_of_runS mixed ttok deep (k48_tabok F) Tryz.func75 (body_some rfl) (k48_lsok0 F) fun args mem hfit ret h => ?_
  clear hfit
  simp only [k48_ent] at h
  split at h
  · rename_i q_out1 list2 rest3_0 rest3_1 rest3_2 j5
    simp only [Option.some.injEq, Prod.mk.injEq] at h
    obtain ⟨hc, rfl⟩ := h
    have hg := (and_split hc).1
    replace hc := (and_split hc).2
    obtain rfl := nbeq_nat hg
    exact ⟨[], [0], 70, _, (k48_run F list2 rest3_0 rest3_1 rest3_2 j5).trans ((k48_cp _ list2 rest3_0 rest3_1 rest3_2 j5 _).trans (bind_use hc _)), rfl, rfl, rfl⟩
  · cases h
/-! loop.example/g01194/impl.apart -/
noncomputable def k65_tab (F : Nat) : Tab := [(56, (slices_Clone_intint_2_ent F)), (75, (orEnt (k47_ent F) (k48_ent F)))]
theorem k65_tabok (F : Nat) : TabOK Tryz.prog (k65_tab F) := (tab_cons (slices_Clone_intint_2_meets F) slices_Clone_intint_2_fok (tab_cons (meets_or (k47_meets F) (k48_meets F) rfl) k47_fok tab_nil))
noncomputable def k65_LS0 (F : Nat) : LT := []
theorem k65_lsok0 (F : Nat) : LoopsOK Tryz.prog (k65_LS0 F) (bodyOf Tryz.f75) := loopsOK_nil
theorem k65_run (F : Nat) (rest0_0 : Int) (rest0_1 : Int) (rest0_2 : Int) (rest0_3 : Int) : runS tt (k65_tab F) (k65_LS0 F) [] [] Tryz.f75 (bodyOf Tryz.f75) 70 [.z0, .z0, (.ri .i64 [rest0_0, rest0_1, rest0_2, rest0_3])] [] = k65_c _ rest0_0 rest0_1 rest0_2 rest0_3 (fun r => some ⟨(.sl 0 0 (List.length r)), [(.vec 49 (.rl .i64 r))], []⟩) := by kernel_rfl
def k65_ent (F : Nat) : Ent := ⟨[true], .loud, fun args mem => match args, mem with
  | [.z0, .z0, (.ri .i64 [rest0_0, rest0_1, rest0_2, rest0_3])], [] => some ((k65_p rest0_0 rest0_1 rest0_2 rest0_3).isSome, ⟨(.sl 0 0 (List.length ((k65_p rest0_0 rest0_1 rest0_2 rest0_3).getD default))), [(.vec 49 (.rl .i64 ((k65_p rest0_0 rest0_1 rest0_2 rest0_3).getD default)))], []⟩)
  | _, _ => none⟩
theorem k65_fok : FunOK Tryz.prog 75 := funOK Tryz.func75 (by kernel_rfl) rfl
theorem k65_meets (F : Nat) : Meets Tryz.prog 75 (k65_ent F) := by
  refine meets_of_runS mixed ttok deep (k65_tabok F) Tryz.func75 (body_some rfl) (k65_lsok0 F) fun args mem hfit ret h => ?_
  clear hfit
  simp only [k65_ent] at h
  split at h
  · rename_i rest0_0 rest0_1 rest0_2 rest0_3
    simp only [Option.some.injEq, Prod.mk.injEq] at h
    obtain ⟨hc, rfl⟩ := h
    exact ⟨[], [], 70, _, (k65_run F rest0_0 rest0_1 rest0_2 rest0_3).trans ((k65_cp _ rest0_0 rest0_1 rest0_2 rest0_3 _).trans (bind_use hc _)), rfl, rfl, rfl⟩
  · cases h
/-! loop.example/g01194/impl.apart -/
def k106_ent (F : Nat) : Ent := ⟨[true], .loud, fun args mem => match args, mem with
  | [.z0, .z0, (.ri .i64 gi)], [] => some ((k106_p gi).isSome, ⟨(.sl 0 0 (List.length ((k106_p gi).getD default))), [(.vec 49 (.rl .i64 ((k106_p gi).getD default)))], []⟩)
  | _, _ => none⟩
theorem k106_fok : FunOK Tryz.prog 75 := funOK Tryz.func75 (by kernel_rfl) rfl
theorem k106_meets (F : Nat) : Meets Tryz.prog 75 (k106_ent F) := by
  intro fr w ρ mem args reals hw ha ret hg
  simp only [k106_ent] at hg
  split at hg
  · rename_i gi
    simp only [Option.some.injEq, Prod.mk.injEq] at hg
    obtain ⟨hc, rfl⟩ := hg
    by_cases hn0 : Nat.beq (List.length gi) 0 = true
    · obtain rfl := list0 (nbeq_nat hn0)
      have e : k106_p [] = some [([] : List Int)] := by kernel_rfl
      have hg' : (k61_ent F).g [.z0, .z0, (.ri .i64 ([] : List Int))] [] = some (true, ⟨(.sl 0 0 1), [(.vec 49 (.rl .i64 [([] : List Int)]))], []⟩) := by kernel_rfl
      have h9 := k61_meets F fr w ρ _ _ reals hw ha _ hg'
      simp only [e, cond_true, Option.getD_some]
      exact h9
    · replace hn0 : Nat.beq (List.length gi) 0 = false := by simpa only [Bool.not_eq_true] using hn0
      by_cases hn1 : Nat.beq (List.length gi) 1 = true
      · obtain ⟨y0, rfl⟩ := list1 (nbeq_nat hn1)
        have e : k106_p [y0] = (bif (Option.isSome (k62_p y0)) then some (Option.getD (k62_p y0) default) else none) := by kernel_rfl
        have hg' : (k62_ent F).g [.z0, .z0, (.ri .i64 [y0])] [] = some ((Option.isSome (k62_p y0)), ⟨(.sl 0 0 (List.length (Option.getD (k62_p y0) default))), [(.vec 49 (.rl .i64 (Option.getD (k62_p y0) default)))], []⟩) := by kernel_rfl
        rw [e] at hc
        have hC := isSome_cond hc
        rw [hC] at hg'
        have h9 := k62_meets F fr w ρ _ _ reals hw ha _ hg'
        simp only [e, hC, cond_true, Option.getD_some]
        exact h9
      · replace hn1 : Nat.beq (List.length gi) 1 = false := by simpa only [Bool.not_eq_true] using hn1
        by_cases hn2 : Nat.beq (List.length gi) 2 = true
        · obtain ⟨y0, y1, rfl⟩ := list2 (nbeq_nat hn2)
          have e : k106_p [y0, y1] = (bif (Option.isSome (k63_p y0 y1)) then some (Option.getD (k63_p y0 y1) default) else none) := by kernel_rfl
          have hg' : (k63_ent F).g [.z0, .z0, (.ri .i64 [y0, y1])] [] = some ((Option.isSome (k63_p y0 y1)), ⟨(.sl 0 0 (List.length (Option.getD (k63_p y0 y1) default))), [(.vec 49 (.rl .i64 (Option.getD (k63_p y0 y1) default)))], []⟩) := by kernel_rfl
          rw [e] at hc
          have hC := isSome_cond hc
          rw [hC] at hg'
          have h9 := k63_meets F fr w ρ _ _ reals hw ha _ hg'
          simp only [e, hC, cond_true, Option.getD_some]
          exact h9
        · replace hn2 : Nat.beq (List.length gi) 2 = false := by simpa only [Bool.not_eq_true] using hn2
          by_cases hn3 : Nat.beq (List.length gi) 3 = true
          · obtain ⟨y0, y1, y2, rfl⟩ := list3 (nbeq_nat hn3)
            have e : k106_p [y0, y1, y2] = (bif (Option.isSome (k64_p y0 y1 y2)) then some (Option.getD (k64_p y0 y1 y2) default) else none) := by kernel_rfl
            have hg' : (k64_ent F).g [.z0, .z0, (.ri .i64 [y0, y1, y2])] [] = some ((Option.isSome (k64_p y0 y1 y2)), ⟨(.sl 0 0 (List.length (Option.getD (k64_p y0 y1 y2) default))), [(.vec 49 (.rl .i64 (Option.getD (k64_p y0 y1 y2) default)))], []⟩) := by kernel_rfl
            rw [e] at hc
            have hC := isSome_cond hc
            rw [hC] at hg'
            have h9 := k64_meets F fr w ρ _ _ reals hw ha _ hg'
            simp only [e, hC, cond_true, Option.getD_some]
            exact h9
          · replace hn3 : Nat.beq (List.length gi) 3 = false := by simpa only [Bool.not_eq_true] using hn3
            by_cases hn4 : Nat.beq (List.length gi) 4 = true
            · obtain ⟨y0, y1, y2, y3, rfl⟩ := list4 (nbeq_nat hn4)
              have e : k106_p [y0, y1, y2, y3] = (bif (Option.isSome (k65_p y0 y1 y2 y3)) then some (Option.getD (k65_p y0 y1 y2 y3) default) else none) := by kernel_rfl
              have hg' : (k65_ent F).g [.z0, .z0, (.ri .i64 [y0, y1, y2, y3])] [] = some ((Option.isSome (k65_p y0 y1 y2 y3)), ⟨(.sl 0 0 (List.length (Option.getD (k65_p y0 y1 y2 y3) default))), [(.vec 49 (.rl .i64 (Option.getD (k65_p y0 y1 y2 y3) default)))], []⟩) := by kernel_rfl
              rw [e] at hc
              have hC := isSome_cond hc
              rw [hC] at hg'
              have h9 := k65_meets F fr w ρ _ _ reals hw ha _ hg'
              simp only [e, hC, cond_true, Option.getD_some]
              exact h9
            · replace hn4 : Nat.beq (List.length gi) 4 = false := by simpa only [Bool.not_eq_true] using hn4
              exfalso
              have e : k106_p gi = none := by simp only [k106_p, k106_c, hn0, hn1, hn2, hn3, hn4, cond_false]
              rw [e] at hc
              cases hc
  · cases hg
/-! loop.example/g01194/impl.worth -/
noncomputable def k109_tab (F : Nat) : Tab := []
theorem k109_tabok (F : Nat) : TabOK Tryz.prog (k109_tab F) := tab_nil
noncomputable def k109_LS0 (F : Nat) : LT := []
theorem k109_lsok0 (F : Nat) : LoopsOK Tryz.prog (k109_LS0 F) (bodyOf Tryz.f70) := loopsOK_nil
theorem k109_run (F : Nat) (t0 : Int) : runS tt (k109_tab F) (k109_LS0 F) [] [] Tryz.f70 (bodyOf Tryz.f70) 70 [(.int .i64 t0)] [] = k109_c _ t0 (fun r => some ⟨(.int .i64 r), [], []⟩) := by kernel_rfl
def k109_ent (F : Nat) : Ent := ⟨[], .quiet, fun args mem => match args, mem with
  | [(.int .i64 t0)], [] => some ((k109_p t0).isSome, ⟨(.int .i64 ((k109_p t0).getD default)), [], []⟩)
  | _, _ => none⟩
theorem k109_fok : FunOK Tryz.prog 70 := funOK Tryz.func70 (by kernel_rfl) rfl
theorem k109_meets (F : Nat) : Meets Tryz.prog 70 (k109_ent F) := by
  refine meets_of_runS mixed ttok deep (k109_tabok F) Tryz.func70 (body_some rfl) (k109_lsok0 F) fun args mem hfit ret h => ?_
  clear hfit
  simp only [k109_ent] at h
  split at h
  · rename_i t0
    simp only [Option.some.injEq, Prod.mk.injEq] at h
    obtain ⟨hc, rfl⟩ := h
    exact ⟨[], [], 70, _, (k109_run F t0).trans ((k109_cp _ t0 _).trans (bind_use hc _)), rfl, rfl, rfl⟩
  · cases h
/-! loop.example/g01194/impl.slideRow -/
noncomputable def k83_tab (F : Nat) : Tab := [(27, (k108_ent F)), (70, (k109_ent F))]
theorem k83_tabok (F : Nat) : TabOK Tryz.prog (k83_tab F) := (tab_cons (k108_meets F) k108_fok (tab_cons (k109_meets F) k109_fok tab_nil))
noncomputable def k83_LS0 (F : Nat) : LT := []
theorem k83_lsok0 (F : Nat) : LoopsOK Tryz.prog (k83_LS0 F) (bodyOf Tryz.f41) := loopsOK_nil
theorem k83_keys : keysOK (bodyOf Tryz.f41) = true := by kernel_rfl
def k83_st3 (jr : Nat) (gr : Int) (wr : List Int) (jn : Int) (gj : Int) (g36 : Int) (w36 : List Int) (wk : List Bool) : St := ⟨expand 63 0 [2, 4, 5, 6, 7, 8, 14, 15, 16] [(.ptr 0 0 0 4), (.ptr 1 0 0 4), (.ptr 2 0 0 4), (.ptr 3 0 0 4), (.int .i64 jn), (.int .i64 gj), (.sl 4 0 jr), (.int .i64 gr), (.int .i64 g36)], [(.var 4 (.ri .i64 [(0 : Int), (0 : Int), (0 : Int), (0 : Int)])), (.var 4 (.rb [false, false, false, false])), (.var 4 (.ri .i64 w36)), (.var 4 (.rb wk)), (.vec 3 (.ri .i64 wr))], 0, []⟩
def k83_o3 (jr : Nat) (gr : Int) (wr : List Int) (x : Int × List Int × List Bool) : GT := (.out (.exit 0 ⟨expand 63 0 [2, 4, 5, 6, 7] [(.ptr 0 0 0 4), (.ptr 1 0 0 4), (.ptr 2 0 0 4), (.ptr 3 0 0 4), (.int .i64 x.1)], [(.var 4 (.ri .i64 [(0 : Int), (0 : Int), (0 : Int), (0 : Int)])), (.var 4 (.rb [false, false, false, false])), (.var 4 (.ri .i64 x.2.1)), (.var 4 (.rb x.2.2))], 0, []⟩))
def k83_ls3 (F : Nat) : LoopS := ⟨63, [2, 4, 5, 6, 7, 8, 14, 15, 16], [], [2, 4, 5, 6, 7], [], [2, 3, 4], [], [], fun vals mem np killed => match vals, mem, np, killed with
  | [(.ptr 0 0 0 4), (.ptr 1 0 0 4), (.ptr 2 0 0 4), (.ptr 3 0 0 4), (.int .i64 jn), (.int .i64 gj), (.sl 4 0 jr), (.int .i64 gr), (.int .i64 g36)], [(.var 4 (.ri .i64 q_t218)), (.var 4 (.rb q_t419)), (.var 4 (.ri .i64 w36)), (.var 4 (.rb wk)), (.vec 3 (.ri .i64 wr))], 0, [] => .br ((q_t218 == ([(0 : Int), (0 : Int), (0 : Int), (0 : Int)] : List Int)) && ((q_t419 == ([false, false, false, false] : List Bool)) && (k83_l3 F jr gr wr jn gj g36 w36 wk).isSome)) (k83_o3 jr gr wr ((k83_l3 F jr gr wr jn gj g36 w36 wk).getD default)) .fail
  | _, _, _, _ => .fail⟩
theorem k83_step3 (F : Nat) (jr : Nat) (gr : Int) (wr : List Int) (jn : Int) (gj : Int) (g36 : Int) (w36 : List Int) (wk : List Bool) {R : Type} (k : Out → Option R) : stepS tt (k83_tab F) (k83_LS0 F) 70 (k83_ls3 F) (loopAt 3 (bodyOf Tryz.f41)) (k83_st3 jr gr wr jn gj g36 w36 wk) k = k83_s3 F jr gr wr R (jn, gj, g36, w36, wk) (fun s => k (.norm (k83_st3 jr gr wr s.1 s.2.1 s.2.2.1 s.2.2.2.1 s.2.2.2.2))) (fun x => (k83_o3 jr gr wr x).run k) := by kernel_rfl
theorem k83_iter3 (F : Nat) (jr : Nat) (gr : Int) (wr : List Int) {R : Type} (k : Out → Option R) : ∀ (n : Nat) (jn : Int) (gj : Int) (g36 : Int) (w36 : List Int) (wk : List Bool), iterS tt (k83_tab F) (k83_LS0 F) 70 (k83_ls3 F) (loopAt 3 (bodyOf Tryz.f41)) n (k83_st3 jr gr wr jn gj g36 w36 wk) k = loopC (k83_s3 F jr gr wr) n (jn, gj, g36, w36, wk) (fun x => (k83_o3 jr gr wr x).run k)
  | 0, jn, gj, g36, w36, wk => rfl
  | n + 1, jn, gj, g36, w36, wk => (iterS_succ tt (k83_tab F) (k83_LS0 F) 70 (k83_ls3 F) (loopAt 3 (bodyOf Tryz.f41)) n (k83_st3 jr gr wr jn gj g36 w36 wk) k).trans ((k83_step3 F jr gr wr jn gj g36 w36 wk (nextK (iterS tt (k83_tab F) (k83_LS0 F) 70 (k83_ls3 F) (loopAt 3 (bodyOf Tryz.f41)) n) k)).trans (congrArg (fun kn => k83_s3 F jr gr wr R (jn, gj, g36, w36, wk) kn _) (funext (fun ⟨jn, gj, g36, w36, wk⟩ => k83_iter3 F jr gr wr k n jn gj g36 w36 wk))))
theorem k83_lok3 (F : Nat) : LoopOK Tryz.prog (loopAt 3 (bodyOf Tryz.f41)) (k83_ls3 F) := by
  refine loopOK_of mixed ttok deep (k83_tabok F) (loopsOK_at (k83_lsok0 F) 3) (fuel := 70) fun R vals mem np killed k x h => ?_
  simp only [k83_ls3] at h
  split at h
  · rename_i jn gj jr gr g36 q_t218 q_t419 w36 wk wr
    simp only [GT.run] at h
    have hc := (cond_noneL h).1
    replace h := (cond_noneL h).2
    have hg := (and_split hc).1
    replace hc := (and_split hc).2
    obtain rfl := beq_li hg
    have hg := (and_split hc).1
    replace hc := (and_split hc).2
    obtain rfl := beq_lb hg
    refine ⟨F, (k83_iter3 F jr gr wr k F jn gj g36 w36 wk).trans ((loopC_use (k83_s3_nat F jr gr wr) hc _).trans h)⟩
  · simp only [GT.run] at h
    cases h
noncomputable def k83_LS1 (F : Nat) : LT := (3, k83_ls3 F) :: k83_LS0 F
theorem k83_lsok1 (F : Nat) : LoopsOK Tryz.prog (k83_LS1 F) (bodyOf Tryz.f41) := loopsOK_cons k83_keys (k83_lok3 F) (k83_lsok0 F)
theorem k83_run (F : Nat) (g4 : List Int) : runS tt (k83_tab F) (k83_LS1 F) [] [] Tryz.f41 (bodyOf Tryz.f41) 70 [(.ints 4 g4)] [] = k83_c _ F g4 (fun r => some ⟨(.tup [(.ints 4 r.1), (.int .i64 r.2.1), (.bools 4 r.2.2)]), [], []⟩) := by kernel_rfl
def k83_ent (F : Nat) : Ent := ⟨[], .quiet, fun args mem => match args, mem with
  | [(.ints 4 g4)], [] => some ((k83_p F g4).isSome, ⟨(.tup [(.ints 4 ((k83_p F g4).getD default).1), (.int .i64 ((k83_p F g4).getD default).2.1), (.bools 4 ((k83_p F g4).getD default).2.2)]), [], []⟩)
  | _, _ => none⟩
theorem k83_fok : FunOK Tryz.prog 41 := funOK Tryz.func41 (by kernel_rfl) rfl
theorem k83_meets (F : Nat) : Meets Tryz.prog 41 (k83_ent F) := by
  refine meets_of_runS mixed ttok deep (k83_tabok F) Tryz.func41 (body_some rfl) (k83_lsok1 F) fun args mem hfit ret h => ?_
  clear hfit
  simp only [k83_ent] at h
  split at h
  · rename_i g4
    simp only [Option.some.injEq, Prod.mk.injEq] at h
    obtain ⟨hc, rfl⟩ := h
    exact ⟨[], [], 70, _, (k83_run F g4).trans ((k83_cp _ F g4 _).trans (bind_use hc _)), rfl, rfl, rfl⟩
  · cases h
/-! cmp.isNaN[int] -/
noncomputable def k78_tab (F : Nat) : Tab := []
theorem k78_tabok (F : Nat) : TabOK Tryz.prog (k78_tab F) := tab_nil
noncomputable def k78_LS0 (F : Nat) : LT := []
theorem k78_lsok0 (F : Nat) : LoopsOK Tryz.prog (k78_LS0 F) (bodyOf Tryz.f104) := loopsOK_nil
theorem k78_run (F : Nat) (x0 : Int) : runS tt (k78_tab F) (k78_LS0 F) [] [] Tryz.f104 (bodyOf Tryz.f104) 70 [(.int .i64 x0)] [] = k78_c _ x0 (fun r => some ⟨(.bool r), [], []⟩) := by kernel_rfl
def k78_ent (F : Nat) : Ent := ⟨[], .quiet, fun args mem => match args, mem with
  | [(.int .i64 x0)], [] => some (true, ⟨(.bool (k78_v x0)), [], []⟩)
  | _, _ => none⟩
theorem k78_fok : FunOK Tryz.prog 104 := funOK Tryz.func104 (by kernel_rfl) rfl
theorem k78_meets (F : Nat) : Meets Tryz.prog 104 (k78_ent F) := by
  refine meets_of_runS mixed ttok deep (k78_tabok F) Tryz.func104 (body_some rfl) (k78_lsok0 F) fun args mem hfit ret h => ?_
  clear hfit
  simp only [k78_ent] at h
  split at h
  · rename_i x0
    simp only [Option.some.injEq, Prod.mk.injEq] at h
    obtain ⟨hc, rfl⟩ := h
    exact ⟨[], [], 70, _, (k78_run F x0).trans (k78_cv _ x0 _), rfl, rfl, rfl⟩
  · cases h
/-! cmp.Compare[int] -/
noncomputable def k55_tab (F : Nat) : Tab := [(104, (k78_ent F))]
theorem k55_tabok (F : Nat) : TabOK Tryz.prog (k55_tab F) := (tab_cons (k78_meets F) k78_fok tab_nil)
noncomputable def k55_LS0 (F : Nat) : LT := []
theorem k55_lsok0 (F : Nat) : LoopsOK Tryz.prog (k55_LS0 F) (bodyOf Tryz.f91) := loopsOK_nil
theorem k55_run (F : Nat) (x0 : Int) (y1 : Int) : runS tt (k55_tab F) (k55_LS0 F) [] [] Tryz.f91 (bodyOf Tryz.f91) 70 [(.int .i64 x0), (.int .i64 y1)] [] = k55_c _ x0 y1 (fun r => some ⟨(.int .i64 r), [], []⟩) := by kernel_rfl
def k55_ent (F : Nat) : Ent := ⟨[], .quiet, fun args mem => match args, mem with
  | [(.int .i64 x0), (.int .i64 y1)], [] => some (true, ⟨(.int .i64 (k55_v x0 y1)), [], []⟩)
  | _, _ => none⟩
theorem k55_fok : FunOK Tryz.prog 91 := funOK Tryz.func91 (by kernel_rfl) rfl
theorem k55_meets (F : Nat) : Meets Tryz.prog 91 (k55_ent F) := by
  refine meets_of_runS mixed ttok deep (k55_tabok F) Tryz.func91 (body_some rfl) (k55_lsok0 F) fun args mem hfit ret h => ?_
  clear hfit
  simp only [k55_ent] at h
  split at h
  · rename_i x0 y1
    simp only [Option.some.injEq, Prod.mk.injEq] at h
    obtain ⟨hc, rfl⟩ := h
    exact ⟨[], [], 70, _, (k55_run F x0 y1).trans (k55_cv _ x0 y1 _), rfl, rfl, rfl⟩
  · cases h
end Go.Proofs.YtabfliifleonaajGreat
