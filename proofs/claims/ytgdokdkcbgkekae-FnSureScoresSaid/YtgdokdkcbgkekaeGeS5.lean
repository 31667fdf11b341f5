/-
Pure functions and what the code of them does, by program; without conditions.
-/
import Derived.Test.YtgdokdkcbgkekaeGeP5
import Derived.Test.YtgdokdkcbgkekaeGeS4
namespace Go.Proofs.Ytgdokdkcbgkekae
open Go Go.Lv Go.Lv.P Go.Proofs
set_option linter.unusedVariables false
set_option linter.unusedSimpArgs false
set_option maxRecDepth 100000
/-! loop.example/g01194/impl.isDirection -/
noncomputable def impl_isDirection_tab (F : Nat) : Tab := [(21, (impl_in_ent F))]
theorem impl_isDirection_tabok (F : Nat) : TabOK Try.prog (impl_isDirection_tab F) := (tab_cons (impl_in_meets F) impl_in_fok tab_nil)
noncomputable def impl_isDirection_LS0 (F : Nat) : LT := []
theorem impl_isDirection_lsok0 (F : Nat) : LoopsOK Try.prog (impl_isDirection_LS0 F) (bodyOf Try.f48) := loopsOK_nil
theorem impl_isDirection_run (F : Nat) (d0 : Int) : runS tt (impl_isDirection_tab F) (impl_isDirection_LS0 F) [] [] Try.f48 (bodyOf Try.f48) 70 [(.int .i64 d0)] [] = impl_isDirection_c _ d0 (fun r => some ⟨(.bool r), [], []⟩) := by kernel_rfl
def impl_isDirection_ent (F : Nat) : Ent := ⟨[], .quiet, fun args mem => match args, mem with
  | [(.int .i64 d0)], [] => some (true, ⟨(.bool (impl_isDirection_v d0)), [], []⟩)
  | _, _ => none⟩
theorem impl_isDirection_fok : FunOK Try.prog 48 := funOK Try.func48 (by kernel_rfl) rfl
theorem impl_isDirection_meets (F : Nat) : Meets Try.prog 48 (impl_isDirection_ent F) := by
  refine meets_of_runS mixed ttok deep (impl_isDirection_tabok F) Try.func48 (body_some rfl) (impl_isDirection_lsok0 F) fun args mem hfit ret h => ?_
  clear hfit
  simp only [impl_isDirection_ent] at h
  split at h
  · rename_i d0
    simp only [Option.some.injEq, Prod.mk.injEq] at h
    obtain ⟨hc, rfl⟩ := h
    exact ⟨[], [], 70, _, (impl_isDirection_run F d0).trans (impl_isDirection_cv _ d0 _), rfl, rfl, rfl⟩
  · cases h

/-! (loop.example/g01194/impl.Board).slides -/
noncomputable def impl_Board_slides_tab (F : Nat) : Tab := [(49, (impl_Board_slide_ent F))]
theorem impl_Board_slides_tabok (F : Nat) : TabOK Try.prog (impl_Board_slides_tab F) := (tab_cons (impl_Board_slide_meets F) impl_Board_slide_fok tab_nil)
noncomputable def impl_Board_slides_LS0 (F : Nat) : LT := []
theorem impl_Board_slides_lsok0 (F : Nat) : LoopsOK Try.prog (impl_Board_slides_LS0 F) (bodyOf Try.f33) := loopsOK_nil
theorem impl_Board_slides_keys : keysOK (bodyOf Try.f33) = true := by kernel_rfl
def impl_Board_slides_st2 (t76 : List Int) (t87 : Int) (t98 : Int) (b9 : List Int) : St := ⟨expand 22 0 [2, 4, 7, 8, 9] [(.ptr 0 0 0 16), (.ptr 1 0 0 16), (.ri .i64 t76), (.int .i64 t87), (.int .i64 t98)], [(.var 16 (.ri .i64 b9)), (.var 16 (.ri .i64 [(0 : Int), (0 : Int), (0 : Int), (0 : Int), (0 : Int), (0 : Int), (0 : Int), (0 : Int), (0 : Int), (0 : Int), (0 : Int), (0 : Int), (0 : Int), (0 : Int), (0 : Int), (0 : Int)]))], 0, []⟩
def impl_Board_slides_o2 (t76 : List Int) (t87 : Int) (x : List Int) : GT := (.out (.exit 0 ⟨expand 22 0 [2, 4] [(.ptr 0 0 0 16), (.ptr 1 0 0 16)], [(.var 16 (.ri .i64 x)), (.var 16 (.ri .i64 [(0 : Int), (0 : Int), (0 : Int), (0 : Int), (0 : Int), (0 : Int), (0 : Int), (0 : Int), (0 : Int), (0 : Int), (0 : Int), (0 : Int), (0 : Int), (0 : Int), (0 : Int), (0 : Int)]))], 0, []⟩))
def impl_Board_slides_ls2 (F : Nat) : LoopS := ⟨22, [2, 4, 7, 8, 9], [], [2, 4], [], [4], [], [], fun vals mem np killed => match vals, mem, np, killed with
  | [(.ptr 0 0 0 16), (.ptr 1 0 0 16), (.ri .i64 t76), (.int .i64 t87), (.int .i64 t98)], [(.var 16 (.ri .i64 b9)), (.var 16 (.ri .i64 q_t410))], 0, [] => .br ((q_t410 == ([(0 : Int), (0 : Int), (0 : Int), (0 : Int), (0 : Int), (0 : Int), (0 : Int), (0 : Int), (0 : Int), (0 : Int), (0 : Int), (0 : Int), (0 : Int), (0 : Int), (0 : Int), (0 : Int)] : List Int)) && (impl_Board_slides_l2 F t76 t87 t98 b9).isSome) (impl_Board_slides_o2 t76 t87 ((impl_Board_slides_l2 F t76 t87 t98 b9).getD default)) .fail
  | _, _, _, _ => .fail⟩
theorem impl_Board_slides_step2 (F : Nat) (t76 : List Int) (t87 : Int) (t98 : Int) (b9 : List Int) {R : Type} (k : Out → Option R) : stepS tt (impl_Board_slides_tab F) (impl_Board_slides_LS0 F) 70 (impl_Board_slides_ls2 F) (loopAt 2 (bodyOf Try.f33)) (impl_Board_slides_st2 t76 t87 t98 b9) k = impl_Board_slides_s2 F t76 t87 R (t98, b9) (fun s => k (.norm (impl_Board_slides_st2 t76 t87 s.1 s.2))) (fun x => (impl_Board_slides_o2 t76 t87 x).run k) := by kernel_rfl
theorem impl_Board_slides_iter2 (F : Nat) (t76 : List Int) (t87 : Int) {R : Type} (k : Out → Option R) : ∀ (n : Nat) (t98 : Int) (b9 : List Int), iterS tt (impl_Board_slides_tab F) (impl_Board_slides_LS0 F) 70 (impl_Board_slides_ls2 F) (loopAt 2 (bodyOf Try.f33)) n (impl_Board_slides_st2 t76 t87 t98 b9) k = loopC (impl_Board_slides_s2 F t76 t87) n (t98, b9) (fun x => (impl_Board_slides_o2 t76 t87 x).run k)
  | 0, t98, b9 => rfl
  | n + 1, t98, b9 => (iterS_succ tt (impl_Board_slides_tab F) (impl_Board_slides_LS0 F) 70 (impl_Board_slides_ls2 F) (loopAt 2 (bodyOf Try.f33)) n (impl_Board_slides_st2 t76 t87 t98 b9) k).trans ((impl_Board_slides_step2 F t76 t87 t98 b9 (nextK (iterS tt (impl_Board_slides_tab F) (impl_Board_slides_LS0 F) 70 (impl_Board_slides_ls2 F) (loopAt 2 (bodyOf Try.f33)) n) k)).trans (congrArg (fun kn => impl_Board_slides_s2 F t76 t87 R (t98, b9) kn _) (funext (fun ⟨t98, b9⟩ => impl_Board_slides_iter2 F t76 t87 k n t98 b9))))
theorem impl_Board_slides_lok2 (F : Nat) : LoopOK Try.prog (loopAt 2 (bodyOf Try.f33)) (impl_Board_slides_ls2 F) := by
  refine loopOK_of mixed ttok deep (impl_Board_slides_tabok F) (loopsOK_at (impl_Board_slides_lsok0 F) 2) (fuel := 70) fun R vals mem np killed k x h => ?_
  simp only [impl_Board_slides_ls2] at h
  split at h
  · rename_i t76 t87 t98 b9 q_t410
    simp only [GT.run] at h
    have hc := (cond_noneL h).1
    replace h := (cond_noneL h).2
    have hg := (and_split hc).1
    replace hc := (and_split hc).2
    obtain rfl := beq_li hg
    refine ⟨F, (impl_Board_slides_iter2 F t76 t87 k F t98 b9).trans ((loopC_use (impl_Board_slides_s2_nat F t76 t87) hc _).trans h)⟩
  · simp only [GT.run] at h
    cases h
noncomputable def impl_Board_slides_LS1 (F : Nat) : LT := (2, impl_Board_slides_ls2 F) :: impl_Board_slides_LS0 F
theorem impl_Board_slides_lsok1 (F : Nat) : LoopsOK Try.prog (impl_Board_slides_LS1 F) (bodyOf Try.f33) := loopsOK_cons impl_Board_slides_keys (impl_Board_slides_lok2 F) (impl_Board_slides_lsok0 F)
theorem impl_Board_slides_run (F : Nat) (b0 : List Int) (list1 : List Int) : runS tt (impl_Board_slides_tab F) (impl_Board_slides_LS1 F) [] [] Try.f33 (bodyOf Try.f33) 70 [(.ints 16 b0), (.ri .i64 list1)] [] = impl_Board_slides_c _ F b0 list1 (fun r => some ⟨(.ints 16 r), [], []⟩) := by kernel_rfl
def impl_Board_slides_ent (F : Nat) : Ent := ⟨[], .quiet, fun args mem => match args, mem with
  | [(.ints 16 b0), (.ri .i64 list1)], [] => some ((impl_Board_slides_p F b0 list1).isSome, ⟨(.ints 16 ((impl_Board_slides_p F b0 list1).getD default)), [], []⟩)
  | _, _ => none⟩
theorem impl_Board_slides_fok : FunOK Try.prog 33 := funOK Try.func33 (by kernel_rfl) rfl
theorem impl_Board_slides_meets (F : Nat) : Meets Try.prog 33 (impl_Board_slides_ent F) := by
  refine meets_of_runS mixed ttok deep (impl_Board_slides_tabok F) Try.func33 (body_some rfl) (impl_Board_slides_lsok1 F) fun args mem hfit ret h => ?_
  clear hfit
  simp only [impl_Board_slides_ent] at h
  split at h
  · rename_i b0 list1
    simp only [Option.some.injEq, Prod.mk.injEq] at h
    obtain ⟨hc, rfl⟩ := h
    exact ⟨[], [], 70, _, (impl_Board_slides_run F b0 list1).trans ((impl_Board_slides_cp _ F b0 list1 _).trans (bind_use hc _)), rfl, rfl, rfl⟩
  · cases h

/-! (loop.example/g01194/impl.Board).isMove -/
noncomputable def impl_Board_isMove_tab (F : Nat) : Tab := [(20, (impl_IsBoard_ent F)), (48, (impl_isDirection_ent F)), (33, (impl_Board_slides_ent F))]
theorem impl_Board_isMove_tabok (F : Nat) : TabOK Try.prog (impl_Board_isMove_tab F) := (tab_cons (impl_IsBoard_meets F) impl_IsBoard_fok (tab_cons (impl_isDirection_meets F) impl_isDirection_fok (tab_cons (impl_Board_slides_meets F) impl_Board_slides_fok tab_nil)))
noncomputable def impl_Board_isMove_LS0 (F : Nat) : LT := []
theorem impl_Board_isMove_lsok0 (F : Nat) : LoopsOK Try.prog (impl_Board_isMove_LS0 F) (bodyOf Try.f32) := loopsOK_nil
theorem impl_Board_isMove_run (F : Nat) (b0 : List Int) (direction1 : Int) : runS tt (impl_Board_isMove_tab F) (impl_Board_isMove_LS0 F) [] [] Try.f32 (bodyOf Try.f32) 70 [(.ints 16 b0), (.int .i64 direction1)] [] = impl_Board_isMove_c _ F b0 direction1 (fun r => some ⟨(.bool r), [], []⟩) := by kernel_rfl
def impl_Board_isMove_ent (F : Nat) : Ent := ⟨[], .quiet, fun args mem => match args, mem with
  | [(.ints 16 b0), (.int .i64 direction1)], [] => some ((impl_Board_isMove_p F b0 direction1).isSome, ⟨(.bool ((impl_Board_isMove_p F b0 direction1).getD default)), [], []⟩)
  | _, _ => none⟩
theorem impl_Board_isMove_fok : FunOK Try.prog 32 := funOK Try.func32 (by kernel_rfl) rfl
theorem impl_Board_isMove_meets (F : Nat) : Meets Try.prog 32 (impl_Board_isMove_ent F) := by
  refine meets_of_runS mixed ttok deep (impl_Board_isMove_tabok F) Try.func32 (body_some rfl) (impl_Board_isMove_lsok0 F) fun args mem hfit ret h => ?_
  clear hfit
  simp only [impl_Board_isMove_ent] at h
  split at h
  · rename_i b0 direction1
    simp only [Option.some.injEq, Prod.mk.injEq] at h
    obtain ⟨hc, rfl⟩ := h
    exact ⟨[], [], 70, _, (impl_Board_isMove_run F b0 direction1).trans ((impl_Board_isMove_cp _ F b0 direction1 _).trans (bind_use hc _)), rfl, rfl, rfl⟩
  · cases h

/-! loop.example/g01194/impl.WorstReply$1 -/
noncomputable def impl_WorstReply_f1_tab (F : Nat) : Tab := [(22, (impl_Board_sure_ent F))]
theorem impl_WorstReply_f1_tabok (F : Nat) : TabOK Try.prog (impl_WorstReply_f1_tab F) := (tab_cons (impl_Board_sure_meets F) impl_Board_sure_fok tab_nil)
noncomputable def impl_WorstReply_f1_LS0 (F : Nat) : LT := []
theorem impl_WorstReply_f1_lsok0 (F : Nat) : LoopsOK Try.prog (impl_WorstReply_f1_LS0 F) (bodyOf Try.f35) := loopsOK_nil
theorem impl_WorstReply_f1_run (F : Nat) (own0 : List Int) (a14 : List Int) : runS tt (impl_WorstReply_f1_tab F) (impl_WorstReply_f1_LS0 F) [] [] Try.f35 (bodyOf Try.f35) 70 [(.ints 16 own0), (.ptr 0 0 0 1)] [(.var 1 (.ri .i64 a14))] = impl_WorstReply_f1_c _ F own0 a14 (fun r => some ⟨(.int .i64 r), [(.var 1 (.ri .i64 a14))], []⟩) := by kernel_rfl
def impl_WorstReply_f1_ent (F : Nat) : Ent := ⟨[], .quiet, fun args mem => match args, mem with
  | [(.ints 16 own0), (.ptr 0 0 0 1)], [(.var 1 (.ri .i64 a14))] => some ((impl_WorstReply_f1_p F own0 a14).isSome, ⟨(.int .i64 ((impl_WorstReply_f1_p F own0 a14).getD default)), [], []⟩)
  | _, _ => none⟩
theorem impl_WorstReply_f1_fok : FunOK Try.prog 35 := funOK Try.func35 (by kernel_rfl) rfl
theorem impl_WorstReply_f1_meets (F : Nat) : Meets Try.prog 35 (impl_WorstReply_f1_ent F) := by
  refine meets_of_runS mixed ttok deep (impl_WorstReply_f1_tabok F) Try.func35 (body_some rfl) (impl_WorstReply_f1_lsok0 F) fun args mem hfit ret h => ?_
  clear hfit
  simp only [impl_WorstReply_f1_ent] at h
  split at h
  · rename_i own0 a14
    simp only [Option.some.injEq, Prod.mk.injEq] at h
    obtain ⟨hc, rfl⟩ := h
    exact ⟨[], [], 70, _, (impl_WorstReply_f1_run F own0 a14).trans ((impl_WorstReply_f1_cp _ F own0 a14 _).trans (bind_use hc _)), rfl, rfl, rfl⟩
  · cases h

/-! (loop.example/g01194/impl.Board).worst -/
noncomputable def impl_Board_worst_impl_WorstReply_f1_tab (F : Nat) : Tab := [(39, (impl_Board_placements_ent F)), (55, (impl_Board_placed_ent F)), (35, (impl_WorstReply_f1_ent F))]
theorem impl_Board_worst_impl_WorstReply_f1_tabok (F : Nat) : TabOK Try.prog (impl_Board_worst_impl_WorstReply_f1_tab F) := (tab_cons (impl_Board_placements_meets F) impl_Board_placements_fok (tab_cons (impl_Board_placed_meets F) impl_Board_placed_fok (tab_cons (impl_WorstReply_f1_meets F) impl_WorstReply_f1_fok tab_nil)))
noncomputable def impl_Board_worst_impl_WorstReply_f1_LS0 (F : Nat) : LT := []
theorem impl_Board_worst_impl_WorstReply_f1_lsok0 (F : Nat) : LoopsOK Try.prog (impl_Board_worst_impl_WorstReply_f1_LS0 F) (bodyOf Try.f34) := loopsOK_nil
theorem impl_Board_worst_impl_WorstReply_f1_keys : keysOK (bodyOf Try.f34) = true := by kernel_rfl
def impl_Board_worst_impl_WorstReply_f1_st3 (t1415 : Int) (of17 : List Int) (b18 : List Int) (t1321 : List (List Int)) (least12 : Int) (t1516 : Int) (out20 : List Int) : St := ⟨expand 36 0 [1, 2, 4, 6, 7, 13, 14, 15] [(.fn 35 [] [(.ptr 0 0 0 1)]), (.ptr 1 0 0 16), (.ptr 2 0 0 3), (.ptr 3 0 0 3), (.int .i64 least12), (.sl 4 0 (List.length t1321)), (.int .i64 t1415), (.int .i64 t1516)], [(.var 1 (.ri .i64 of17)), (.var 16 (.ri .i64 b18)), (.var 3 (.ri .i64 [(0 : Int), (0 : Int), (0 : Int)])), (.var 3 (.ri .i64 out20)), (.vec 34 (.rr 3 t1321))], 1, []⟩
def impl_Board_worst_impl_WorstReply_f1_o3 (t1415 : Int) (of17 : List Int) (b18 : List Int) (t1321 : List (List Int)) (x : Int × List Int) : GT := (.out (.exit 0 ⟨expand 36 0 [4, 6, 7] [(.ptr 1 0 0 3), (.ptr 2 0 0 3), (.int .i64 x.1)], [(.var 1 (.ri .i64 of17)), (.var 3 (.ri .i64 [(0 : Int), (0 : Int), (0 : Int)])), (.var 3 (.ri .i64 x.2))], 1, []⟩))
def impl_Board_worst_impl_WorstReply_f1_ls3 (F : Nat) : LoopS := ⟨36, [1, 2, 4, 6, 7, 13, 14, 15], [], [4, 6, 7], [], [4, 5], [], [], fun vals mem np killed => match vals, mem, np, killed with
  | [(.fn 35 [] [(.ptr 0 0 0 1)]), (.ptr 1 0 0 16), (.ptr 2 0 0 3), (.ptr 3 0 0 3), (.int .i64 least12), (.sl 4 0 q_t1314), (.int .i64 t1415), (.int .i64 t1516)], [(.var 1 (.ri .i64 of17)), (.var 16 (.ri .i64 b18)), (.var 3 (.ri .i64 q_t419)), (.var 3 (.ri .i64 out20)), (.vec 34 (.rr 3 t1321))], 1, [] => .br ((q_t419 == ([(0 : Int), (0 : Int), (0 : Int)] : List Int)) && ((Nat.beq q_t1314 (List.length t1321)) && (impl_Board_worst_impl_WorstReply_f1_l3 F t1415 of17 b18 t1321 least12 t1516 out20).isSome)) (impl_Board_worst_impl_WorstReply_f1_o3 t1415 of17 b18 t1321 ((impl_Board_worst_impl_WorstReply_f1_l3 F t1415 of17 b18 t1321 least12 t1516 out20).getD default)) .fail
  | _, _, _, _ => .fail⟩
theorem impl_Board_worst_impl_WorstReply_f1_step3 (F : Nat) (t1415 : Int) (of17 : List Int) (b18 : List Int) (t1321 : List (List Int)) (least12 : Int) (t1516 : Int) (out20 : List Int) {R : Type} (k : Out → Option R) : stepS tt (impl_Board_worst_impl_WorstReply_f1_tab F) (impl_Board_worst_impl_WorstReply_f1_LS0 F) 70 (impl_Board_worst_impl_WorstReply_f1_ls3 F) (loopAt 3 (bodyOf Try.f34)) (impl_Board_worst_impl_WorstReply_f1_st3 t1415 of17 b18 t1321 least12 t1516 out20) k = impl_Board_worst_impl_WorstReply_f1_s3 F t1415 of17 b18 t1321 R (least12, t1516, out20) (fun s => k (.norm (impl_Board_worst_impl_WorstReply_f1_st3 t1415 of17 b18 t1321 s.1 s.2.1 s.2.2))) (fun x => (impl_Board_worst_impl_WorstReply_f1_o3 t1415 of17 b18 t1321 x).run k) := by kernel_rfl
theorem impl_Board_worst_impl_WorstReply_f1_iter3 (F : Nat) (t1415 : Int) (of17 : List Int) (b18 : List Int) (t1321 : List (List Int)) {R : Type} (k : Out → Option R) : ∀ (n : Nat) (least12 : Int) (t1516 : Int) (out20 : List Int), iterS tt (impl_Board_worst_impl_WorstReply_f1_tab F) (impl_Board_worst_impl_WorstReply_f1_LS0 F) 70 (impl_Board_worst_impl_WorstReply_f1_ls3 F) (loopAt 3 (bodyOf Try.f34)) n (impl_Board_worst_impl_WorstReply_f1_st3 t1415 of17 b18 t1321 least12 t1516 out20) k = loopC (impl_Board_worst_impl_WorstReply_f1_s3 F t1415 of17 b18 t1321) n (least12, t1516, out20) (fun x => (impl_Board_worst_impl_WorstReply_f1_o3 t1415 of17 b18 t1321 x).run k)
  | 0, least12, t1516, out20 => rfl
  | n + 1, least12, t1516, out20 => (iterS_succ tt (impl_Board_worst_impl_WorstReply_f1_tab F) (impl_Board_worst_impl_WorstReply_f1_LS0 F) 70 (impl_Board_worst_impl_WorstReply_f1_ls3 F) (loopAt 3 (bodyOf Try.f34)) n (impl_Board_worst_impl_WorstReply_f1_st3 t1415 of17 b18 t1321 least12 t1516 out20) k).trans ((impl_Board_worst_impl_WorstReply_f1_step3 F t1415 of17 b18 t1321 least12 t1516 out20 (nextK (iterS tt (impl_Board_worst_impl_WorstReply_f1_tab F) (impl_Board_worst_impl_WorstReply_f1_LS0 F) 70 (impl_Board_worst_impl_WorstReply_f1_ls3 F) (loopAt 3 (bodyOf Try.f34)) n) k)).trans (congrArg (fun kn => impl_Board_worst_impl_WorstReply_f1_s3 F t1415 of17 b18 t1321 R (least12, t1516, out20) kn _) (funext (fun ⟨least12, t1516, out20⟩ => impl_Board_worst_impl_WorstReply_f1_iter3 F t1415 of17 b18 t1321 k n least12 t1516 out20))))
theorem impl_Board_worst_impl_WorstReply_f1_lok3 (F : Nat) : LoopOK Try.prog (loopAt 3 (bodyOf Try.f34)) (impl_Board_worst_impl_WorstReply_f1_ls3 F) := by
  refine loopOK_of mixed ttok deep (impl_Board_worst_impl_WorstReply_f1_tabok F) (loopsOK_at (impl_Board_worst_impl_WorstReply_f1_lsok0 F) 3) (fuel := 70) fun R vals mem np killed k x h => ?_
  simp only [impl_Board_worst_impl_WorstReply_f1_ls3] at h
  split at h
  · rename_i least12 q_t1314 t1415 t1516 of17 b18 q_t419 out20 t1321
    simp only [GT.run] at h
    have hc := (cond_noneL h).1
    replace h := (cond_noneL h).2
    have hg := (and_split hc).1
    replace hc := (and_split hc).2
    obtain rfl := beq_li hg
    have hg := (and_split hc).1
    replace hc := (and_split hc).2
    obtain rfl := nbeq_nat hg
    refine ⟨F, (impl_Board_worst_impl_WorstReply_f1_iter3 F t1415 of17 b18 t1321 k F least12 t1516 out20).trans ((loopC_use (impl_Board_worst_impl_WorstReply_f1_s3_nat F t1415 of17 b18 t1321) hc _).trans h)⟩
  · simp only [GT.run] at h
    cases h
noncomputable def impl_Board_worst_impl_WorstReply_f1_LS1 (F : Nat) : LT := (3, impl_Board_worst_impl_WorstReply_f1_ls3 F) :: impl_Board_worst_impl_WorstReply_f1_LS0 F
theorem impl_Board_worst_impl_WorstReply_f1_lsok1 (F : Nat) : LoopsOK Try.prog (impl_Board_worst_impl_WorstReply_f1_LS1 F) (bodyOf Try.f34) := loopsOK_cons impl_Board_worst_impl_WorstReply_f1_keys (impl_Board_worst_impl_WorstReply_f1_lok3 F) (impl_Board_worst_impl_WorstReply_f1_lsok0 F)
theorem impl_Board_worst_impl_WorstReply_f1_run (F : Nat) (b0 : List Int) (of4 : List Int) : runS tt (impl_Board_worst_impl_WorstReply_f1_tab F) (impl_Board_worst_impl_WorstReply_f1_LS1 F) [] [] Try.f34 (bodyOf Try.f34) 70 [(.ints 16 b0), (.fn 35 [] [(.ptr 0 0 0 1)])] [(.var 1 (.ri .i64 of4))] = impl_Board_worst_impl_WorstReply_f1_c _ F b0 of4 (fun r => some ⟨(.tup [(.ints 3 r.1), (.int .i64 r.2)]), [(.var 1 (.ri .i64 of4))], []⟩) := by kernel_rfl
def impl_Board_worst_impl_WorstReply_f1_ent (F : Nat) : Ent := ⟨[], .quiet, fun args mem => match args, mem with
  | [(.ints 16 b0), (.fn 35 [] [(.ptr 0 0 0 1)])], [(.var 1 (.ri .i64 of4))] => some ((impl_Board_worst_impl_WorstReply_f1_p F b0 of4).isSome, ⟨(.tup [(.ints 3 ((impl_Board_worst_impl_WorstReply_f1_p F b0 of4).getD default).1), (.int .i64 ((impl_Board_worst_impl_WorstReply_f1_p F b0 of4).getD default).2)]), [], []⟩)
  | _, _ => none⟩
theorem impl_Board_worst_impl_WorstReply_f1_fok : FunOK Try.prog 34 := funOK Try.func34 (by kernel_rfl) rfl
theorem impl_Board_worst_impl_WorstReply_f1_meets (F : Nat) : Meets Try.prog 34 (impl_Board_worst_impl_WorstReply_f1_ent F) := by
  refine meets_of_runS mixed ttok deep (impl_Board_worst_impl_WorstReply_f1_tabok F) Try.func34 (body_some rfl) (impl_Board_worst_impl_WorstReply_f1_lsok1 F) fun args mem hfit ret h => ?_
  clear hfit
  simp only [impl_Board_worst_impl_WorstReply_f1_ent] at h
  split at h
  · rename_i b0 of4
    simp only [Option.some.injEq, Prod.mk.injEq] at h
    obtain ⟨hc, rfl⟩ := h
    exact ⟨[], [], 70, _, (impl_Board_worst_impl_WorstReply_f1_run F b0 of4).trans ((impl_Board_worst_impl_WorstReply_f1_cp _ F b0 of4 _).trans (bind_use hc _)), rfl, rfl, rfl⟩
  · cases h

/-! loop.example/g01194/impl.WorstReply -/
noncomputable def impl_WorstReply_tab (F : Nat) : Tab := [(32, (impl_Board_isMove_ent F)), (21, (impl_in_ent F)), (33, (impl_Board_slides_ent F)), (34, (impl_Board_worst_impl_WorstReply_f1_ent F))]
theorem impl_WorstReply_tabok (F : Nat) : TabOK Try.prog (impl_WorstReply_tab F) := (tab_cons (impl_Board_isMove_meets F) impl_Board_isMove_fok (tab_cons (impl_in_meets F) impl_in_fok (tab_cons (impl_Board_slides_meets F) impl_Board_slides_fok (tab_cons (impl_Board_worst_impl_WorstReply_f1_meets F) impl_Board_worst_impl_WorstReply_f1_fok tab_nil))))
noncomputable def impl_WorstReply_LS0 (F : Nat) : LT := []
theorem impl_WorstReply_lsok0 (F : Nat) : LoopsOK Try.prog (impl_WorstReply_LS0 F) (bodyOf Try.f11) := loopsOK_nil
theorem impl_WorstReply_run (F : Nat) (b0 : List Int) (direction1 : Int) (n2 : Int) : runS tt (impl_WorstReply_tab F) (impl_WorstReply_LS0 F) [] [] Try.f11 (bodyOf Try.f11) 70 [(.ints 16 b0), (.int .i64 direction1), (.int .i64 n2)] [] = impl_WorstReply_c _ F b0 direction1 n2 (fun r => some ⟨(.tup [(.ints 3 r.1), (.int .i64 r.2.1), (.bool r.2.2)]), [], []⟩) := by kernel_rfl
def impl_WorstReply_ent (F : Nat) : Ent := ⟨[], .quiet, fun args mem => match args, mem with
  | [(.ints 16 b0), (.int .i64 direction1), (.int .i64 n2)], [] => some ((impl_WorstReply_p F b0 direction1 n2).isSome, ⟨(.tup [(.ints 3 ((impl_WorstReply_p F b0 direction1 n2).getD default).1), (.int .i64 ((impl_WorstReply_p F b0 direction1 n2).getD default).2.1), (.bool ((impl_WorstReply_p F b0 direction1 n2).getD default).2.2)]), [], []⟩)
  | _, _ => none⟩
theorem impl_WorstReply_fok : FunOK Try.prog 11 := funOK Try.func11 (by kernel_rfl) rfl
theorem impl_WorstReply_meets (F : Nat) : Meets Try.prog 11 (impl_WorstReply_ent F) := by
  refine meets_of_runS mixed ttok deep (impl_WorstReply_tabok F) Try.func11 (body_some rfl) (impl_WorstReply_lsok0 F) fun args mem hfit ret h => ?_
  clear hfit
  simp only [impl_WorstReply_ent] at h
  split at h
  · rename_i b0 direction1 n2
    simp only [Option.some.injEq, Prod.mk.injEq] at h
    obtain ⟨hc, rfl⟩ := h
    exact ⟨[], [], 70, _, (impl_WorstReply_run F b0 direction1 n2).trans ((impl_WorstReply_cp _ F b0 direction1 n2 _).trans (bind_use hc _)), rfl, rfl, rfl⟩
  · cases h

/-! loop.example/g01194/spec.l2Side -/
noncomputable def spec_l2Side_tab (F : Nat) : Tab := [(24, (spec_l1In_ent F))]
theorem spec_l2Side_tabok (F : Nat) : TabOK Try.prog (spec_l2Side_tab F) := (tab_cons (spec_l1In_meets F) spec_l1In_fok tab_nil)
noncomputable def spec_l2Side_LS0 (F : Nat) : LT := []
theorem spec_l2Side_lsok0 (F : Nat) : LoopsOK Try.prog (spec_l2Side_LS0 F) (bodyOf Try.f36) := loopsOK_nil
theorem spec_l2Side_run (F : Nat) (d0 : Int) : runS tt (spec_l2Side_tab F) (spec_l2Side_LS0 F) [] [] Try.f36 (bodyOf Try.f36) 70 [(.int .i64 d0)] [] = spec_l2Side_c _ d0 (fun r => some ⟨(.bool r), [], []⟩) := by kernel_rfl
def spec_l2Side_ent (F : Nat) : Ent := ⟨[], .quiet, fun args mem => match args, mem with
  | [(.int .i64 d0)], [] => some (true, ⟨(.bool (spec_l2Side_v d0)), [], []⟩)
  | _, _ => none⟩
theorem spec_l2Side_fok : FunOK Try.prog 36 := funOK Try.func36 (by kernel_rfl) rfl
theorem spec_l2Side_meets (F : Nat) : Meets Try.prog 36 (spec_l2Side_ent F) := by
  refine meets_of_runS mixed ttok deep (spec_l2Side_tabok F) Try.func36 (body_some rfl) (spec_l2Side_lsok0 F) fun args mem hfit ret h => ?_
  clear hfit
  simp only [spec_l2Side_ent] at h
  split at h
  · rename_i d0
    simp only [Option.some.injEq, Prod.mk.injEq] at h
    obtain ⟨hc, rfl⟩ := h
    exact ⟨[], [], 70, _, (spec_l2Side_run F d0).trans (spec_l2Side_cv _ d0 _), rfl, rfl, rfl⟩
  · cases h

/-! loop.example/g01194/spec.l8Least -/
def spec_l8Least_ent (F : Nat) : Ent := ⟨[], .quiet, fun args mem => match args, mem with
  | [(.ints 16 next0), (.int .i64 n1)], [] => some ((spec_l8Least_p F next0 n1).isSome, ⟨(.tup [(.ints 3 ((spec_l8Least_p F next0 n1).getD default).1), (.int .i64 ((spec_l8Least_p F next0 n1).getD default).2)]), [], []⟩)
  | _, _ => none⟩
theorem spec_l8Least_fok : FunOK Try.prog 38 := funOK Try.func38 (by kernel_rfl) rfl
theorem spec_l8Least_meets (F : Nat) : Meets Try.prog 38 (spec_l8Least_ent F) := by
  intro fr w ρ mem args reals hw ha ret hg
  simp only [spec_l8Least_ent] at hg
  split at hg
  · rename_i next0 n1
    simp only [Option.some.injEq, Prod.mk.injEq] at hg
    obtain ⟨hc, rfl⟩ := hg
    by_cases hn0 : (n1 == (0 : Int)) = true
    · obtain rfl := beq_int hn0
      have e : spec_l8Least_p F next0 (0 : Int) = (bif (Option.isSome (spec_l8Least_n0_p F next0)) then some ((Option.getD (spec_l8Least_n0_p F next0) default), (0 : Int)) else none) := by kernel_rfl
      have hg' : (spec_l8Least_n0_ent F).g [(.ints 16 next0), (.int .i64 (0 : Int))] [] = some ((Option.isSome (spec_l8Least_n0_p F next0)), ⟨(.tup [(.ints 3 (Option.getD (spec_l8Least_n0_p F next0) default)), (.int .i64 (0 : Int))]), [], []⟩) := by kernel_rfl
      rw [e] at hc
      have hC := isSome_cond hc
      rw [hC] at hg'
      have h9 := spec_l8Least_n0_meets F fr w ρ _ _ reals hw ha _ hg'
      simp only [e, hC, cond_true, Option.getD_some]
      exact h9
    · replace hn0 : (n1 == (0 : Int)) = false := by simpa using hn0
      by_cases hn1 : (n1 == (1 : Int)) = true
      · obtain rfl := beq_int hn1
        have e : spec_l8Least_p F next0 (1 : Int) = (bif (Option.isSome (spec_l8Least_n1_p F next0)) then some ((Option.getD (spec_l8Least_n1_p F next0) default).1, (Option.getD (spec_l8Least_n1_p F next0) default).2) else none) := by kernel_rfl
        have hg' : (spec_l8Least_n1_ent F).g [(.ints 16 next0), (.int .i64 (1 : Int))] [] = some ((Option.isSome (spec_l8Least_n1_p F next0)), ⟨(.tup [(.ints 3 (Option.getD (spec_l8Least_n1_p F next0) default).1), (.int .i64 (Option.getD (spec_l8Least_n1_p F next0) default).2)]), [], []⟩) := by kernel_rfl
        rw [e] at hc
        have hC := isSome_cond hc
        rw [hC] at hg'
        have h9 := spec_l8Least_n1_meets F fr w ρ _ _ reals hw ha _ hg'
        simp only [e, hC, cond_true, Option.getD_some]
        exact h9
      · replace hn1 : (n1 == (1 : Int)) = false := by simpa using hn1
        exfalso
        have e : spec_l8Least_p F next0 n1 = none := by simp only [spec_l8Least_p, spec_l8Least_c, hn0, hn1, cond_false]
        rw [e] at hc
        cases hc
  · cases hg

/-! loop.example/g01194/spec.WorstReply -/
noncomputable def spec_WorstReply_tab (F : Nat) : Tab := [(23, (spec_l2Board_ent F)), (36, (spec_l2Side_ent F)), (24, (spec_l1In_ent F)), (37, (spec_l2Slide_ent F)), (38, (spec_l8Least_ent F))]
theorem spec_WorstReply_tabok (F : Nat) : TabOK Try.prog (spec_WorstReply_tab F) := (tab_cons (spec_l2Board_meets F) spec_l2Board_fok (tab_cons (spec_l2Side_meets F) spec_l2Side_fok (tab_cons (spec_l1In_meets F) spec_l1In_fok (tab_cons (spec_l2Slide_meets F) spec_l2Slide_fok (tab_cons (spec_l8Least_meets F) spec_l8Least_fok tab_nil)))))
noncomputable def spec_WorstReply_LS0 (F : Nat) : LT := []
theorem spec_WorstReply_lsok0 (F : Nat) : LoopsOK Try.prog (spec_WorstReply_LS0 F) (bodyOf Try.f12) := loopsOK_nil
theorem spec_WorstReply_run (F : Nat) (b0 : List Int) (direction1 : Int) (n2 : Int) : runS tt (spec_WorstReply_tab F) (spec_WorstReply_LS0 F) [] [] Try.f12 (bodyOf Try.f12) 70 [(.ints 16 b0), (.int .i64 direction1), (.int .i64 n2)] [] = spec_WorstReply_c _ F b0 direction1 n2 (fun r => some ⟨(.tup [(.ints 3 r.1), (.int .i64 r.2.1), (.bool r.2.2)]), [], []⟩) := by kernel_rfl
def spec_WorstReply_ent (F : Nat) : Ent := ⟨[], .quiet, fun args mem => match args, mem with
  | [(.ints 16 b0), (.int .i64 direction1), (.int .i64 n2)], [] => some ((spec_WorstReply_p F b0 direction1 n2).isSome, ⟨(.tup [(.ints 3 ((spec_WorstReply_p F b0 direction1 n2).getD default).1), (.int .i64 ((spec_WorstReply_p F b0 direction1 n2).getD default).2.1), (.bool ((spec_WorstReply_p F b0 direction1 n2).getD default).2.2)]), [], []⟩)
  | _, _ => none⟩
theorem spec_WorstReply_fok : FunOK Try.prog 12 := funOK Try.func12 (by kernel_rfl) rfl
theorem spec_WorstReply_meets (F : Nat) : Meets Try.prog 12 (spec_WorstReply_ent F) := by
  refine meets_of_runS mixed ttok deep (spec_WorstReply_tabok F) Try.func12 (body_some rfl) (spec_WorstReply_lsok0 F) fun args mem hfit ret h => ?_
  clear hfit
  simp only [spec_WorstReply_ent] at h
  split at h
  · rename_i b0 direction1 n2
    simp only [Option.some.injEq, Prod.mk.injEq] at h
    obtain ⟨hc, rfl⟩ := h
    exact ⟨[], [], 70, _, (spec_WorstReply_run F b0 direction1 n2).trans ((spec_WorstReply_cp _ F b0 direction1 n2 _).trans (bind_use hc _)), rfl, rfl, rfl⟩
  · cases h

/-! loop.example/g01194/impl.PlacementsOf -/
noncomputable def impl_PlacementsOf_tab (F : Nat) : Tab := [(20, (impl_IsBoard_ent F)), (39, (impl_Board_placements_ent F))]
theorem impl_PlacementsOf_tabok (F : Nat) : TabOK Try.prog (impl_PlacementsOf_tab F) := (tab_cons (impl_IsBoard_meets F) impl_IsBoard_fok (tab_cons (impl_Board_placements_meets F) impl_Board_placements_fok tab_nil))
noncomputable def impl_PlacementsOf_LS0 (F : Nat) : LT := []
theorem impl_PlacementsOf_lsok0 (F : Nat) : LoopsOK Try.prog (impl_PlacementsOf_LS0 F) (bodyOf Try.f13) := loopsOK_nil
theorem impl_PlacementsOf_run (F : Nat) (b0 : List Int) : runS tt (impl_PlacementsOf_tab F) (impl_PlacementsOf_LS0 F) [⟨2, 34, (.rr 3 ([] : List (List Int)))⟩] [] Try.f13 (bodyOf Try.f13) 70 [(.ints 16 b0)] [] = impl_PlacementsOf_c _ F b0 (fun r => some ⟨(.tup [(.sl 0 0 (List.length r.2)), (.bool r.1)]), [(.vec 34 (.rr 3 r.2))], []⟩) := by kernel_rfl
def impl_PlacementsOf_ent (F : Nat) : Ent := ⟨[], .fresh, fun args mem => match args, mem with
  | [(.ints 16 b0)], [] => some ((impl_PlacementsOf_p F b0).isSome, ⟨(.tup [(.sl 0 0 (List.length ((impl_PlacementsOf_p F b0).getD default).2)), (.bool ((impl_PlacementsOf_p F b0).getD default).1)]), [(.vec 34 (.rr 3 ((impl_PlacementsOf_p F b0).getD default).2))], []⟩)
  | _, _ => none⟩
theorem impl_PlacementsOf_fok : FunOK Try.prog 13 := funOK Try.func13 (by kernel_rfl) rfl
theorem impl_PlacementsOf_meets (F : Nat) : Meets Try.prog 13 (impl_PlacementsOf_ent F) := by
  refine meets_of_runS mixed ttok deep (impl_PlacementsOf_tabok F) Try.func13 (body_some rfl) (impl_PlacementsOf_lsok0 F) fun args mem hfit ret h => ?_
  clear hfit
  simp only [impl_PlacementsOf_ent] at h
  split at h
  · rename_i b0
    simp only [Option.some.injEq, Prod.mk.injEq] at h
    obtain ⟨hc, rfl⟩ := h
    exact ⟨[⟨2, 34, (.rr 3 ([] : List (List Int)))⟩], [], 70, _, (impl_PlacementsOf_run F b0).trans ((impl_PlacementsOf_cp _ F b0 _).trans (bind_use hc _)), rfl, rfl, rfl⟩
  · cases h

/-! loop.example/g01194/spec.PlacementsOf -/
noncomputable def spec_PlacementsOf_tab (F : Nat) : Tab := [(23, (spec_l2Board_ent F)), (40, (spec_l8Places_ent F))]
theorem spec_PlacementsOf_tabok (F : Nat) : TabOK Try.prog (spec_PlacementsOf_tab F) := (tab_cons (spec_l2Board_meets F) spec_l2Board_fok (tab_cons (spec_l8Places_meets F) spec_l8Places_fok tab_nil))
noncomputable def spec_PlacementsOf_LS0 (F : Nat) : LT := []
theorem spec_PlacementsOf_lsok0 (F : Nat) : LoopsOK Try.prog (spec_PlacementsOf_LS0 F) (bodyOf Try.f14) := loopsOK_nil
theorem spec_PlacementsOf_run (F : Nat) (b0 : List Int) : runS tt (spec_PlacementsOf_tab F) (spec_PlacementsOf_LS0 F) [] [] Try.f14 (bodyOf Try.f14) 70 [(.ints 16 b0)] [] = spec_PlacementsOf_c _ F b0 (fun r => some ⟨(.tup [(.sl 0 0 (List.length r.2)), (.bool r.1)]), [(.vec 34 (.rr 3 r.2))], []⟩) := by kernel_rfl
def spec_PlacementsOf_ent (F : Nat) : Ent := ⟨[], .fresh, fun args mem => match args, mem with
  | [(.ints 16 b0)], [] => some ((spec_PlacementsOf_p F b0).isSome, ⟨(.tup [(.sl 0 0 (List.length ((spec_PlacementsOf_p F b0).getD default).2)), (.bool ((spec_PlacementsOf_p F b0).getD default).1)]), [(.vec 34 (.rr 3 ((spec_PlacementsOf_p F b0).getD default).2))], []⟩)
  | _, _ => none⟩
theorem spec_PlacementsOf_fok : FunOK Try.prog 14 := funOK Try.func14 (by kernel_rfl) rfl
theorem spec_PlacementsOf_meets (F : Nat) : Meets Try.prog 14 (spec_PlacementsOf_ent F) := by
  refine meets_of_runS mixed ttok deep (spec_PlacementsOf_tabok F) Try.func14 (body_some rfl) (spec_PlacementsOf_lsok0 F) fun args mem hfit ret h => ?_
  clear hfit
  simp only [spec_PlacementsOf_ent] at h
  split at h
  · rename_i b0
    simp only [Option.some.injEq, Prod.mk.injEq] at h
    obtain ⟨hc, rfl⟩ := h
    exact ⟨[], [], 70, _, (spec_PlacementsOf_run F b0).trans ((spec_PlacementsOf_cp _ F b0 _).trans (bind_use hc _)), rfl, rfl, rfl⟩
  · cases h

/-! (*loop.example/g01194/spec.l1Cur).cell -/
noncomputable def spec_l1Cur_cell_tab (F : Nat) : Tab := [(43, (spec_l1Cur_one_ent F)), (29, (spec_l1Cur_among_ent F)), (44, (spec_l1Cur_pick_ent F))]
theorem spec_l1Cur_cell_tabok (F : Nat) : TabOK Try.prog (spec_l1Cur_cell_tab F) := (tab_cons (spec_l1Cur_one_meets F) spec_l1Cur_one_fok (tab_cons (spec_l1Cur_among_meets F) spec_l1Cur_among_fok (tab_cons (spec_l1Cur_pick_meets F) spec_l1Cur_pick_fok tab_nil)))
noncomputable def spec_l1Cur_cell_LS0 (F : Nat) : LT := []
theorem spec_l1Cur_cell_lsok0 (F : Nat) : LoopsOK Try.prog (spec_l1Cur_cell_LS0 F) (bodyOf Try.f41) := loopsOK_nil
theorem spec_l1Cur_cell_run (F : Nat) (c3 : List Int) (c4 : Int) (c5 : Int) : runS tt (spec_l1Cur_cell_tab F) (spec_l1Cur_cell_LS0 F) [] [] Try.f41 (bodyOf Try.f41) 70 [(.ptr 0 0 0 3)] [(.var 3 (.rv [(.ri .u8 c3), (.int .i64 c4), (.int .u64 c5)]))] = spec_l1Cur_cell_c _ c3 c4 c5 (fun r => some ⟨(.ints 2 r.1), [(.var 3 (.rv [(.ri .u8 c3), (.int .i64 r.2.1), (.int .u64 r.2.2)]))], []⟩) := by kernel_rfl
def spec_l1Cur_cell_ent (F : Nat) : Ent := ⟨[], .loud, fun args mem => match args, mem with
  | [(.ptr 0 0 0 3)], [(.var 3 (.rv [(.ri .u8 c3), (.int .i64 c4), (.int .u64 c5)]))] => some ((spec_l1Cur_cell_p c3 c4 c5).isSome, ⟨(.ints 2 ((spec_l1Cur_cell_p c3 c4 c5).getD default).1), [(.var 3 (.rv [(.ri .u8 c3), (.int .i64 ((spec_l1Cur_cell_p c3 c4 c5).getD default).2.1), (.int .u64 ((spec_l1Cur_cell_p c3 c4 c5).getD default).2.2)]))], []⟩)
  | _, _ => none⟩
theorem spec_l1Cur_cell_fok : FunOK Try.prog 41 := funOK Try.func41 (by kernel_rfl) rfl
theorem spec_l1Cur_cell_meets (F : Nat) : Meets Try.prog 41 (spec_l1Cur_cell_ent F) := by
  refine meets_of_runS mixed ttok deep (spec_l1Cur_cell_tabok F) Try.func41 (body_some rfl) (spec_l1Cur_cell_lsok0 F) fun args mem hfit ret h => ?_
  clear hfit
  simp only [spec_l1Cur_cell_ent] at h
  split at h
  · rename_i c3 c4 c5
    simp only [Option.some.injEq, Prod.mk.injEq] at h
    obtain ⟨hc, rfl⟩ := h
    exact ⟨[], [], 70, _, (spec_l1Cur_cell_run F c3 c4 c5).trans ((spec_l1Cur_cell_cp _ c3 c4 c5 _).trans (bind_use hc _)), rfl, rfl, rfl⟩
  · cases h

/-! loop.example/g01194/spec.DrawPlaceTile -/
noncomputable def spec_DrawPlaceTile_tab (F : Nat) : Tab := [(29, (spec_l1Cur_among_ent F)), (31, (spec_l1Cur_tight_ent F)), (41, (spec_l1Cur_cell_ent F)), (42, (spec_l2Empty_ent F)), (43, (spec_l1Cur_one_ent F)), (44, (spec_l1Cur_pick_ent F))]
theorem spec_DrawPlaceTile_tabok (F : Nat) : TabOK Try.prog (spec_DrawPlaceTile_tab F) := (tab_cons (spec_l1Cur_among_meets F) spec_l1Cur_among_fok (tab_cons (spec_l1Cur_tight_meets F) spec_l1Cur_tight_fok (tab_cons (spec_l1Cur_cell_meets F) spec_l1Cur_cell_fok (tab_cons (spec_l2Empty_meets F) spec_l2Empty_fok (tab_cons (spec_l1Cur_one_meets F) spec_l1Cur_one_fok (tab_cons (spec_l1Cur_pick_meets F) spec_l1Cur_pick_fok tab_nil))))))
noncomputable def spec_DrawPlaceTile_LS0 (F : Nat) : LT := []
theorem spec_DrawPlaceTile_lsok0 (F : Nat) : LoopsOK Try.prog (spec_DrawPlaceTile_LS0 F) (bodyOf Try.f15) := loopsOK_nil
theorem spec_DrawPlaceTile_run (F : Nat) (code0 : List Int) : runS tt (spec_DrawPlaceTile_tab F) (spec_DrawPlaceTile_LS0 F) [] [] Try.f15 (bodyOf Try.f15) 70 [(.ri .u8 code0)] [] = spec_DrawPlaceTile_c _ F code0 (fun r => some ⟨(.tup [(.ints 16 r.1), (.ints 3 r.2)]), [], []⟩) := by kernel_rfl
def spec_DrawPlaceTile_ent (F : Nat) : Ent := ⟨[], .quiet, fun args mem => match args, mem with
  | [(.ri .u8 code0)], [] => some ((spec_DrawPlaceTile_p F code0).isSome, ⟨(.tup [(.ints 16 ((spec_DrawPlaceTile_p F code0).getD default).1), (.ints 3 ((spec_DrawPlaceTile_p F code0).getD default).2)]), [], []⟩)
  | _, _ => none⟩
theorem spec_DrawPlaceTile_fok : FunOK Try.prog 15 := funOK Try.func15 (by kernel_rfl) rfl
theorem spec_DrawPlaceTile_meets (F : Nat) : Meets Try.prog 15 (spec_DrawPlaceTile_ent F) := by
  refine meets_of_runS mixed ttok deep (spec_DrawPlaceTile_tabok F) Try.func15 (body_some rfl) (spec_DrawPlaceTile_lsok0 F) fun args mem hfit ret h => ?_
  clear hfit
  simp only [spec_DrawPlaceTile_ent] at h
  split at h
  · rename_i code0
    simp only [Option.some.injEq, Prod.mk.injEq] at h
    obtain ⟨hc, rfl⟩ := h
    exact ⟨[], [], 70, _, (spec_DrawPlaceTile_run F code0).trans ((spec_DrawPlaceTile_cp _ F code0 _).trans (bind_use hc _)), rfl, rfl, rfl⟩
  · cases h

/-! loop.example/g01194/impl.isCell -/
noncomputable def impl_isCell_tab (F : Nat) : Tab := [(21, (impl_in_ent F))]
theorem impl_isCell_tabok (F : Nat) : TabOK Try.prog (impl_isCell_tab F) := (tab_cons (impl_in_meets F) impl_in_fok tab_nil)
noncomputable def impl_isCell_LS0 (F : Nat) : LT := []
theorem impl_isCell_lsok0 (F : Nat) : LoopsOK Try.prog (impl_isCell_LS0 F) (bodyOf Try.f62) := loopsOK_nil
theorem impl_isCell_run (F : Nat) (cell0 : List Int) : runS tt (impl_isCell_tab F) (impl_isCell_LS0 F) [] [] Try.f62 (bodyOf Try.f62) 70 [(.ints 2 cell0)] [] = impl_isCell_c _ cell0 (fun r => some ⟨(.bool r), [], []⟩) := by kernel_rfl
def impl_isCell_ent (F : Nat) : Ent := ⟨[], .quiet, fun args mem => match args, mem with
  | [(.ints 2 cell0)], [] => some (true, ⟨(.bool (impl_isCell_v cell0)), [], []⟩)
  | _, _ => none⟩
theorem impl_isCell_fok : FunOK Try.prog 62 := funOK Try.func62 (by kernel_rfl) rfl
theorem impl_isCell_meets (F : Nat) : Meets Try.prog 62 (impl_isCell_ent F) := by
  refine meets_of_runS mixed ttok deep (impl_isCell_tabok F) Try.func62 (body_some rfl) (impl_isCell_lsok0 F) fun args mem hfit ret h => ?_
  clear hfit
  simp only [impl_isCell_ent] at h
  split at h
  · rename_i cell0
    simp only [Option.some.injEq, Prod.mk.injEq] at h
    obtain ⟨hc, rfl⟩ := h
    exact ⟨[], [], 70, _, (impl_isCell_run F cell0).trans (impl_isCell_cv _ cell0 _), rfl, rfl, rfl⟩
  · cases h

/-! loop.example/g01194/impl.PutTile -/
noncomputable def impl_PutTile_tab (F : Nat) : Tab := [(20, (impl_IsBoard_ent F)), (62, (impl_isCell_ent F)), (21, (impl_in_ent F)), (63, (impl_Board_at_ent F))]
theorem impl_PutTile_tabok (F : Nat) : TabOK Try.prog (impl_PutTile_tab F) := (tab_cons (impl_IsBoard_meets F) impl_IsBoard_fok (tab_cons (impl_isCell_meets F) impl_isCell_fok (tab_cons (impl_in_meets F) impl_in_fok (tab_cons (impl_Board_at_meets F) impl_Board_at_fok tab_nil))))
noncomputable def impl_PutTile_LS0 (F : Nat) : LT := []
theorem impl_PutTile_lsok0 (F : Nat) : LoopsOK Try.prog (impl_PutTile_LS0 F) (bodyOf Try.f45) := loopsOK_nil
theorem impl_PutTile_run (F : Nat) (b0 : List Int) (cell1 : List Int) (t2 : Int) : runS tt (impl_PutTile_tab F) (impl_PutTile_LS0 F) [] [] Try.f45 (bodyOf Try.f45) 70 [(.ints 16 b0), (.ints 2 cell1), (.int .i64 t2)] [] = impl_PutTile_c _ F b0 cell1 t2 (fun r => some ⟨(.tup [(.ints 16 r.1), (.bool r.2)]), [], []⟩) := by kernel_rfl
def impl_PutTile_ent (F : Nat) : Ent := ⟨[], .quiet, fun args mem => match args, mem with
  | [(.ints 16 b0), (.ints 2 cell1), (.int .i64 t2)], [] => some ((impl_PutTile_p F b0 cell1 t2).isSome, ⟨(.tup [(.ints 16 ((impl_PutTile_p F b0 cell1 t2).getD default).1), (.bool ((impl_PutTile_p F b0 cell1 t2).getD default).2)]), [], []⟩)
  | _, _ => none⟩
theorem impl_PutTile_fok : FunOK Try.prog 45 := funOK Try.func45 (by kernel_rfl) rfl
theorem impl_PutTile_meets (F : Nat) : Meets Try.prog 45 (impl_PutTile_ent F) := by
  refine meets_of_runS mixed ttok deep (impl_PutTile_tabok F) Try.func45 (body_some rfl) (impl_PutTile_lsok0 F) fun args mem hfit ret h => ?_
  clear hfit
  simp only [impl_PutTile_ent] at h
  split at h
  · rename_i b0 cell1 t2
    simp only [Option.some.injEq, Prod.mk.injEq] at h
    obtain ⟨hc, rfl⟩ := h
    exact ⟨[], [], 70, _, (impl_PutTile_run F b0 cell1 t2).trans ((impl_PutTile_cp _ F b0 cell1 t2 _).trans (bind_use hc _)), rfl, rfl, rfl⟩
  · cases h

/-! loop.example/g01194/impl.PlaceTile -/
noncomputable def impl_PlaceTile_tab (F : Nat) : Tab := [(21, (impl_in_ent F)), (45, (impl_PutTile_ent F))]
theorem impl_PlaceTile_tabok (F : Nat) : TabOK Try.prog (impl_PlaceTile_tab F) := (tab_cons (impl_in_meets F) impl_in_fok (tab_cons (impl_PutTile_meets F) impl_PutTile_fok tab_nil))
noncomputable def impl_PlaceTile_LS0 (F : Nat) : LT := []
theorem impl_PlaceTile_lsok0 (F : Nat) : LoopsOK Try.prog (impl_PlaceTile_LS0 F) (bodyOf Try.f16) := loopsOK_nil
theorem impl_PlaceTile_run (F : Nat) (b0 : List Int) (p1 : List Int) : runS tt (impl_PlaceTile_tab F) (impl_PlaceTile_LS0 F) [] [] Try.f16 (bodyOf Try.f16) 70 [(.ints 16 b0), (.ints 3 p1)] [] = impl_PlaceTile_c _ F b0 p1 (fun r => some ⟨(.tup [(.ints 16 r.1), (.bool r.2)]), [], []⟩) := by kernel_rfl
def impl_PlaceTile_ent (F : Nat) : Ent := ⟨[], .quiet, fun args mem => match args, mem with
  | [(.ints 16 b0), (.ints 3 p1)], [] => some ((impl_PlaceTile_p F b0 p1).isSome, ⟨(.tup [(.ints 16 ((impl_PlaceTile_p F b0 p1).getD default).1), (.bool ((impl_PlaceTile_p F b0 p1).getD default).2)]), [], []⟩)
  | _, _ => none⟩
theorem impl_PlaceTile_fok : FunOK Try.prog 16 := funOK Try.func16 (by kernel_rfl) rfl
theorem impl_PlaceTile_meets (F : Nat) : Meets Try.prog 16 (impl_PlaceTile_ent F) := by
  refine meets_of_runS mixed ttok deep (impl_PlaceTile_tabok F) Try.func16 (body_some rfl) (impl_PlaceTile_lsok0 F) fun args mem hfit ret h => ?_
  clear hfit
  simp only [impl_PlaceTile_ent] at h
  split at h
  · rename_i b0 p1
    simp only [Option.some.injEq, Prod.mk.injEq] at h
    obtain ⟨hc, rfl⟩ := h
    exact ⟨[], [], 70, _, (impl_PlaceTile_run F b0 p1).trans ((impl_PlaceTile_cp _ F b0 p1 _).trans (bind_use hc _)), rfl, rfl, rfl⟩
  · cases h

/-! loop.example/g01194/spec.l2Cell -/
noncomputable def spec_l2Cell_tab (F : Nat) : Tab := [(24, (spec_l1In_ent F))]
theorem spec_l2Cell_tabok (F : Nat) : TabOK Try.prog (spec_l2Cell_tab F) := (tab_cons (spec_l1In_meets F) spec_l1In_fok tab_nil)
noncomputable def spec_l2Cell_LS0 (F : Nat) : LT := []
theorem spec_l2Cell_lsok0 (F : Nat) : LoopsOK Try.prog (spec_l2Cell_LS0 F) (bodyOf Try.f64) := loopsOK_nil
theorem spec_l2Cell_run (F : Nat) (cell0 : List Int) : runS tt (spec_l2Cell_tab F) (spec_l2Cell_LS0 F) [] [] Try.f64 (bodyOf Try.f64) 70 [(.ints 2 cell0)] [] = spec_l2Cell_c _ cell0 (fun r => some ⟨(.bool r), [], []⟩) := by kernel_rfl
def spec_l2Cell_ent (F : Nat) : Ent := ⟨[], .quiet, fun args mem => match args, mem with
  | [(.ints 2 cell0)], [] => some (true, ⟨(.bool (spec_l2Cell_v cell0)), [], []⟩)
  | _, _ => none⟩
theorem spec_l2Cell_fok : FunOK Try.prog 64 := funOK Try.func64 (by kernel_rfl) rfl
theorem spec_l2Cell_meets (F : Nat) : Meets Try.prog 64 (spec_l2Cell_ent F) := by
  refine meets_of_runS mixed ttok deep (spec_l2Cell_tabok F) Try.func64 (body_some rfl) (spec_l2Cell_lsok0 F) fun args mem hfit ret h => ?_
  clear hfit
  simp only [spec_l2Cell_ent] at h
  split at h
  · rename_i cell0
    simp only [Option.some.injEq, Prod.mk.injEq] at h
    obtain ⟨hc, rfl⟩ := h
    exact ⟨[], [], 70, _, (spec_l2Cell_run F cell0).trans (spec_l2Cell_cv _ cell0 _), rfl, rfl, rfl⟩
  · cases h

/-! loop.example/g01194/spec.l8Can -/
noncomputable def spec_l8Can_tab (F : Nat) : Tab := [(64, (spec_l2Cell_ent F)), (24, (spec_l1In_ent F)), (65, (spec_l2At_ent F))]
theorem spec_l8Can_tabok (F : Nat) : TabOK Try.prog (spec_l8Can_tab F) := (tab_cons (spec_l2Cell_meets F) spec_l2Cell_fok (tab_cons (spec_l1In_meets F) spec_l1In_fok (tab_cons (spec_l2At_meets F) spec_l2At_fok tab_nil)))
noncomputable def spec_l8Can_LS0 (F : Nat) : LT := []
theorem spec_l8Can_lsok0 (F : Nat) : LoopsOK Try.prog (spec_l8Can_LS0 F) (bodyOf Try.f46) := loopsOK_nil
theorem spec_l8Can_run (F : Nat) (b0 : List Int) (p1 : List Int) : runS tt (spec_l8Can_tab F) (spec_l8Can_LS0 F) [] [] Try.f46 (bodyOf Try.f46) 70 [(.ints 16 b0), (.ints 3 p1)] [] = spec_l8Can_c _ b0 p1 (fun r => some ⟨(.bool r), [], []⟩) := by kernel_rfl
def spec_l8Can_ent (F : Nat) : Ent := ⟨[], .quiet, fun args mem => match args, mem with
  | [(.ints 16 b0), (.ints 3 p1)], [] => some ((spec_l8Can_p b0 p1).isSome, ⟨(.bool ((spec_l8Can_p b0 p1).getD default)), [], []⟩)
  | _, _ => none⟩
theorem spec_l8Can_fok : FunOK Try.prog 46 := funOK Try.func46 (by kernel_rfl) rfl
theorem spec_l8Can_meets (F : Nat) : Meets Try.prog 46 (spec_l8Can_ent F) := by
  refine meets_of_runS mixed ttok deep (spec_l8Can_tabok F) Try.func46 (body_some rfl) (spec_l8Can_lsok0 F) fun args mem hfit ret h => ?_
  clear hfit
  simp only [spec_l8Can_ent] at h
  split at h
  · rename_i b0 p1
    simp only [Option.some.injEq, Prod.mk.injEq] at h
    obtain ⟨hc, rfl⟩ := h
    exact ⟨[], [], 70, _, (spec_l8Can_run F b0 p1).trans ((spec_l8Can_cp _ b0 p1 _).trans (bind_use hc _)), rfl, rfl, rfl⟩
  · cases h

/-! loop.example/g01194/spec.PlaceTile -/
noncomputable def spec_PlaceTile_tab (F : Nat) : Tab := [(23, (spec_l2Board_ent F)), (46, (spec_l8Can_ent F)), (47, (spec_l8Put_ent F))]
theorem spec_PlaceTile_tabok (F : Nat) : TabOK Try.prog (spec_PlaceTile_tab F) := (tab_cons (spec_l2Board_meets F) spec_l2Board_fok (tab_cons (spec_l8Can_meets F) spec_l8Can_fok (tab_cons (spec_l8Put_meets F) spec_l8Put_fok tab_nil)))
noncomputable def spec_PlaceTile_LS0 (F : Nat) : LT := []
theorem spec_PlaceTile_lsok0 (F : Nat) : LoopsOK Try.prog (spec_PlaceTile_LS0 F) (bodyOf Try.f17) := loopsOK_nil
theorem spec_PlaceTile_run (F : Nat) (b0 : List Int) (p1 : List Int) : runS tt (spec_PlaceTile_tab F) (spec_PlaceTile_LS0 F) [] [] Try.f17 (bodyOf Try.f17) 70 [(.ints 16 b0), (.ints 3 p1)] [] = spec_PlaceTile_c _ F b0 p1 (fun r => some ⟨(.tup [(.ints 16 r.1), (.bool r.2)]), [], []⟩) := by kernel_rfl
def spec_PlaceTile_ent (F : Nat) : Ent := ⟨[], .quiet, fun args mem => match args, mem with
  | [(.ints 16 b0), (.ints 3 p1)], [] => some ((spec_PlaceTile_p F b0 p1).isSome, ⟨(.tup [(.ints 16 ((spec_PlaceTile_p F b0 p1).getD default).1), (.bool ((spec_PlaceTile_p F b0 p1).getD default).2)]), [], []⟩)
  | _, _ => none⟩
theorem spec_PlaceTile_fok : FunOK Try.prog 17 := funOK Try.func17 (by kernel_rfl) rfl
theorem spec_PlaceTile_meets (F : Nat) : Meets Try.prog 17 (spec_PlaceTile_ent F) := by
  refine meets_of_runS mixed ttok deep (spec_PlaceTile_tabok F) Try.func17 (body_some rfl) (spec_PlaceTile_lsok0 F) fun args mem hfit ret h => ?_
  clear hfit
  simp only [spec_PlaceTile_ent] at h
  split at h
  · rename_i b0 p1
    simp only [Option.some.injEq, Prod.mk.injEq] at h
    obtain ⟨hc, rfl⟩ := h
    exact ⟨[], [], 70, _, (spec_PlaceTile_run F b0 p1).trans ((spec_PlaceTile_cp _ F b0 p1 _).trans (bind_use hc _)), rfl, rfl, rfl⟩
  · cases h

/-! loop.example/g01194/impl.SlideBoard -/
noncomputable def impl_SlideBoard_tab (F : Nat) : Tab := [(20, (impl_IsBoard_ent F)), (48, (impl_isDirection_ent F)), (49, (impl_Board_slide_ent F))]
theorem impl_SlideBoard_tabok (F : Nat) : TabOK Try.prog (impl_SlideBoard_tab F) := (tab_cons (impl_IsBoard_meets F) impl_IsBoard_fok (tab_cons (impl_isDirection_meets F) impl_isDirection_fok (tab_cons (impl_Board_slide_meets F) impl_Board_slide_fok tab_nil)))
noncomputable def impl_SlideBoard_LS0 (F : Nat) : LT := []
theorem impl_SlideBoard_lsok0 (F : Nat) : LoopsOK Try.prog (impl_SlideBoard_LS0 F) (bodyOf Try.f18) := loopsOK_nil
theorem impl_SlideBoard_run (F : Nat) (b0 : List Int) (direction1 : Int) : runS tt (impl_SlideBoard_tab F) (impl_SlideBoard_LS0 F) [] [] Try.f18 (bodyOf Try.f18) 70 [(.ints 16 b0), (.int .i64 direction1)] [] = impl_SlideBoard_c _ F b0 direction1 (fun r => some ⟨(.tup [(.ints 16 r.1), (.int .i64 r.2.1), (.bool r.2.2)]), [], []⟩) := by kernel_rfl
def impl_SlideBoard_ent (F : Nat) : Ent := ⟨[], .quiet, fun args mem => match args, mem with
  | [(.ints 16 b0), (.int .i64 direction1)], [] => some ((impl_SlideBoard_p F b0 direction1).isSome, ⟨(.tup [(.ints 16 ((impl_SlideBoard_p F b0 direction1).getD default).1), (.int .i64 ((impl_SlideBoard_p F b0 direction1).getD default).2.1), (.bool ((impl_SlideBoard_p F b0 direction1).getD default).2.2)]), [], []⟩)
  | _, _ => none⟩
theorem impl_SlideBoard_fok : FunOK Try.prog 18 := funOK Try.func18 (by kernel_rfl) rfl
theorem impl_SlideBoard_meets (F : Nat) : Meets Try.prog 18 (impl_SlideBoard_ent F) := by
  refine meets_of_runS mixed ttok deep (impl_SlideBoard_tabok F) Try.func18 (body_some rfl) (impl_SlideBoard_lsok0 F) fun args mem hfit ret h => ?_
  clear hfit
  simp only [impl_SlideBoard_ent] at h
  split at h
  · rename_i b0 direction1
    simp only [Option.some.injEq, Prod.mk.injEq] at h
    obtain ⟨hc, rfl⟩ := h
    exact ⟨[], [], 70, _, (impl_SlideBoard_run F b0 direction1).trans ((impl_SlideBoard_cp _ F b0 direction1 _).trans (bind_use hc _)), rfl, rfl, rfl⟩
  · cases h

/-! loop.example/g01194/laws.FnSureScores -/
noncomputable def laws_FnSureScores_tab (F : Nat) : Tab := [(4, (laws_rBig_ent F)), (5, (spec_DrawSureScore_ent F)), (6, (impl_SureScore_ent F)), (7, (spec_SureScore_ent F)), (8, (impl_BestSure_ent F)), (9, (spec_BestSure_ent F)), (10, (spec_DrawWorstReply_ent F)), (11, (impl_WorstReply_ent F)), (12, (spec_WorstReply_ent F)), (13, (impl_PlacementsOf_ent F)), (14, (spec_PlacementsOf_ent F)), (15, (spec_DrawPlaceTile_ent F)), (16, (impl_PlaceTile_ent F)), (17, (spec_PlaceTile_ent F)), (18, (impl_SlideBoard_ent F))]
theorem laws_FnSureScores_tabok (F : Nat) : TabOK Try.prog (laws_FnSureScores_tab F) := (tab_cons (laws_rBig_meets F) laws_rBig_fok (tab_cons (spec_DrawSureScore_meets F) spec_DrawSureScore_fok (tab_cons (impl_SureScore_meets F) impl_SureScore_fok (tab_cons (spec_SureScore_meets F) spec_SureScore_fok (tab_cons (impl_BestSure_meets F) impl_BestSure_fok (tab_cons (spec_BestSure_meets F) spec_BestSure_fok (tab_cons (spec_DrawWorstReply_meets F) spec_DrawWorstReply_fok (tab_cons (impl_WorstReply_meets F) impl_WorstReply_fok (tab_cons (spec_WorstReply_meets F) spec_WorstReply_fok (tab_cons (impl_PlacementsOf_meets F) impl_PlacementsOf_fok (tab_cons (spec_PlacementsOf_meets F) spec_PlacementsOf_fok (tab_cons (spec_DrawPlaceTile_meets F) spec_DrawPlaceTile_fok (tab_cons (impl_PlaceTile_meets F) impl_PlaceTile_fok (tab_cons (spec_PlaceTile_meets F) spec_PlaceTile_fok (tab_cons (impl_SlideBoard_meets F) impl_SlideBoard_fok tab_nil)))))))))))))))
noncomputable def laws_FnSureScores_LS0 (F : Nat) : LT := []
theorem laws_FnSureScores_lsok0 (F : Nat) : LoopsOK Try.prog (laws_FnSureScores_LS0 F) (bodyOf Try.f3) := loopsOK_nil
theorem laws_FnSureScores_keys : keysOK (bodyOf Try.f3) = true := by kernel_rfl
def laws_FnSureScores_st22 (code0 : List Int) (n4 : Int) (sure5 : Int) (best6 : Int) (one7 : Bool) (d11 : Int) (m12 : Int) (least16 : Int) (two17 : Bool) (b23 : List Int) (c24 : List Int) (reply25 : List Int) (all26 : List (List Int)) (want27 : List (List Int)) (i22 : Int) : St := ⟨expand 252 0 [0, 3, 4, 5, 9, 10, 13, 14, 15, 16, 17, 18, 22, 24, 26] [(.ri .u8 code0), (.ptr 0 0 0 16), (.int .i64 n4), (.int .i64 sure5), (.int .i64 best6), (.bool one7), (.ptr 1 0 0 16), (.int .i64 d11), (.int .i64 m12), (.ptr 2 0 0 3), (.int .i64 least16), (.bool two17), (.sl 3 0 (List.length all26)), (.sl 4 0 (List.length want27)), (.int .i64 i22)], [(.var 16 (.ri .i64 b23)), (.var 16 (.ri .i64 c24)), (.var 3 (.ri .i64 reply25)), (.vec 34 (.rr 3 all26)), (.vec 34 (.rr 3 want27))], 0, []⟩
def laws_FnSureScores_o22 (code0 : List Int) (n4 : Int) (sure5 : Int) (best6 : Int) (one7 : Bool) (d11 : Int) (m12 : Int) (least16 : Int) (two17 : Bool) (b23 : List Int) (c24 : List Int) (reply25 : List Int) (all26 : List (List Int)) (want27 : List (List Int)) (x : Bool) : GT := (.br x (.out (.ret ⟨expand 252 0 [2] [(.bool false)], [], 0, []⟩)) (.out (.exit 0 ⟨expand 252 0 [0, 3, 4, 5, 9, 10, 13, 14, 15, 16, 17, 18] [(.ri .u8 code0), (.ptr 0 0 0 16), (.int .i64 n4), (.int .i64 sure5), (.int .i64 best6), (.bool one7), (.ptr 1 0 0 16), (.int .i64 d11), (.int .i64 m12), (.ptr 2 0 0 3), (.int .i64 least16), (.bool two17)], [(.var 16 (.ri .i64 b23)), (.var 16 (.ri .i64 c24)), (.var 3 (.ri .i64 reply25))], 0, []⟩)))
def laws_FnSureScores_ls22 (F : Nat) : LoopS := ⟨252, [0, 3, 4, 5, 9, 10, 13, 14, 15, 16, 17, 18, 22, 24, 26], [], [0, 3, 4, 5, 9, 10, 13, 14, 15, 16, 17, 18], [], [2], [], [], fun vals mem np killed => match vals, mem, np, killed with
  | [(.ri .u8 code0), (.ptr 0 0 0 16), (.int .i64 n4), (.int .i64 sure5), (.int .i64 best6), (.bool one7), (.ptr 1 0 0 16), (.int .i64 d11), (.int .i64 m12), (.ptr 2 0 0 3), (.int .i64 least16), (.bool two17), (.sl 3 0 q_all19), (.sl 4 0 q_want21), (.int .i64 i22)], [(.var 16 (.ri .i64 b23)), (.var 16 (.ri .i64 c24)), (.var 3 (.ri .i64 reply25)), (.vec 34 (.rr 3 all26)), (.vec 34 (.rr 3 want27))], 0, [] => .br ((Nat.beq q_all19 (List.length all26)) && ((Nat.beq q_want21 (List.length want27)) && (laws_FnSureScores_l22 F code0 n4 sure5 best6 one7 d11 m12 least16 two17 b23 c24 reply25 all26 want27 i22).isSome)) (laws_FnSureScores_o22 code0 n4 sure5 best6 one7 d11 m12 least16 two17 b23 c24 reply25 all26 want27 ((laws_FnSureScores_l22 F code0 n4 sure5 best6 one7 d11 m12 least16 two17 b23 c24 reply25 all26 want27 i22).getD default)) .fail
  | _, _, _, _ => .fail⟩
theorem laws_FnSureScores_step22 (F : Nat) (code0 : List Int) (n4 : Int) (sure5 : Int) (best6 : Int) (one7 : Bool) (d11 : Int) (m12 : Int) (least16 : Int) (two17 : Bool) (b23 : List Int) (c24 : List Int) (reply25 : List Int) (all26 : List (List Int)) (want27 : List (List Int)) (i22 : Int) {R : Type} (k : Out → Option R) : stepS tt (laws_FnSureScores_tab F) (laws_FnSureScores_LS0 F) 70 (laws_FnSureScores_ls22 F) (loopAt 22 (bodyOf Try.f3)) (laws_FnSureScores_st22 code0 n4 sure5 best6 one7 d11 m12 least16 two17 b23 c24 reply25 all26 want27 i22) k = laws_FnSureScores_s22 F code0 n4 sure5 best6 one7 d11 m12 least16 two17 b23 c24 reply25 all26 want27 R i22 (fun s => k (.norm (laws_FnSureScores_st22 code0 n4 sure5 best6 one7 d11 m12 least16 two17 b23 c24 reply25 all26 want27 s))) (fun x => (laws_FnSureScores_o22 code0 n4 sure5 best6 one7 d11 m12 least16 two17 b23 c24 reply25 all26 want27 x).run k) := by kernel_rfl
theorem laws_FnSureScores_iter22 (F : Nat) (code0 : List Int) (n4 : Int) (sure5 : Int) (best6 : Int) (one7 : Bool) (d11 : Int) (m12 : Int) (least16 : Int) (two17 : Bool) (b23 : List Int) (c24 : List Int) (reply25 : List Int) (all26 : List (List Int)) (want27 : List (List Int)) {R : Type} (k : Out → Option R) : ∀ (n : Nat) (i22 : Int), iterS tt (laws_FnSureScores_tab F) (laws_FnSureScores_LS0 F) 70 (laws_FnSureScores_ls22 F) (loopAt 22 (bodyOf Try.f3)) n (laws_FnSureScores_st22 code0 n4 sure5 best6 one7 d11 m12 least16 two17 b23 c24 reply25 all26 want27 i22) k = loopC (laws_FnSureScores_s22 F code0 n4 sure5 best6 one7 d11 m12 least16 two17 b23 c24 reply25 all26 want27) n i22 (fun x => (laws_FnSureScores_o22 code0 n4 sure5 best6 one7 d11 m12 least16 two17 b23 c24 reply25 all26 want27 x).run k)
  | 0, i22 => rfl
  | n + 1, i22 => (iterS_succ tt (laws_FnSureScores_tab F) (laws_FnSureScores_LS0 F) 70 (laws_FnSureScores_ls22 F) (loopAt 22 (bodyOf Try.f3)) n (laws_FnSureScores_st22 code0 n4 sure5 best6 one7 d11 m12 least16 two17 b23 c24 reply25 all26 want27 i22) k).trans ((laws_FnSureScores_step22 F code0 n4 sure5 best6 one7 d11 m12 least16 two17 b23 c24 reply25 all26 want27 i22 (nextK (iterS tt (laws_FnSureScores_tab F) (laws_FnSureScores_LS0 F) 70 (laws_FnSureScores_ls22 F) (loopAt 22 (bodyOf Try.f3)) n) k)).trans (congrArg (fun kn => laws_FnSureScores_s22 F code0 n4 sure5 best6 one7 d11 m12 least16 two17 b23 c24 reply25 all26 want27 R i22 kn _) (funext (fun i22 => laws_FnSureScores_iter22 F code0 n4 sure5 best6 one7 d11 m12 least16 two17 b23 c24 reply25 all26 want27 k n i22))))
theorem laws_FnSureScores_lok22 (F : Nat) : LoopOK Try.prog (loopAt 22 (bodyOf Try.f3)) (laws_FnSureScores_ls22 F) := by
  refine loopOK_of mixed ttok deep (laws_FnSureScores_tabok F) (loopsOK_at (laws_FnSureScores_lsok0 F) 22) (fuel := 70) fun R vals mem np killed k x h => ?_
  simp only [laws_FnSureScores_ls22] at h
  split at h
  · rename_i code0 n4 sure5 best6 one7 d11 m12 least16 two17 q_all19 q_want21 i22 b23 c24 reply25 all26 want27
    simp only [GT.run] at h
    have hc := (cond_noneL h).1
    replace h := (cond_noneL h).2
    have hg := (and_split hc).1
    replace hc := (and_split hc).2
    obtain rfl := nbeq_nat hg
    have hg := (and_split hc).1
    replace hc := (and_split hc).2
    obtain rfl := nbeq_nat hg
    refine ⟨F, (laws_FnSureScores_iter22 F code0 n4 sure5 best6 one7 d11 m12 least16 two17 b23 c24 reply25 all26 want27 k F i22).trans ((loopC_use (laws_FnSureScores_s22_nat F code0 n4 sure5 best6 one7 d11 m12 least16 two17 b23 c24 reply25 all26 want27) hc _).trans h)⟩
  · simp only [GT.run] at h
    cases h
noncomputable def laws_FnSureScores_LS1 (F : Nat) : LT := (22, laws_FnSureScores_ls22 F) :: laws_FnSureScores_LS0 F
theorem laws_FnSureScores_lsok1 (F : Nat) : LoopsOK Try.prog (laws_FnSureScores_LS1 F) (bodyOf Try.f3) := loopsOK_cons laws_FnSureScores_keys (laws_FnSureScores_lok22 F) (laws_FnSureScores_lsok0 F)
theorem laws_FnSureScores_run (F : Nat) (code0 : List Int) : runS tt (laws_FnSureScores_tab F) (laws_FnSureScores_LS1 F) [] [] Try.f3 (bodyOf Try.f3) 70 [(.ri .u8 code0)] [] = laws_FnSureScores_c _ F code0 (fun r => some ⟨(.bool r), [], []⟩) := by kernel_rfl
def laws_FnSureScores_ent (F : Nat) : Ent := ⟨[], .quiet, fun args mem => match args, mem with
  | [(.ri .u8 code0)], [] => some ((laws_FnSureScores_p F code0).isSome, ⟨(.bool ((laws_FnSureScores_p F code0).getD default)), [], []⟩)
  | _, _ => none⟩
theorem laws_FnSureScores_fok : FunOK Try.prog 3 := funOK Try.func3 (by kernel_rfl) rfl
theorem laws_FnSureScores_meets (F : Nat) : Meets Try.prog 3 (laws_FnSureScores_ent F) := by
  refine meets_of_runS mixed ttok deep (laws_FnSureScores_tabok F) Try.func3 (body_some rfl) (laws_FnSureScores_lsok1 F) fun args mem hfit ret h => ?_
  clear hfit
  simp only [laws_FnSureScores_ent] at h
  split at h
  · rename_i code0
    simp only [Option.some.injEq, Prod.mk.injEq] at h
    obtain ⟨hc, rfl⟩ := h
    exact ⟨[], [], 70, _, (laws_FnSureScores_run F code0).trans ((laws_FnSureScores_cp _ F code0 _).trans (bind_use hc _)), rfl, rfl, rfl⟩
  · cases h
end Go.Proofs.Ytgdokdkcbgkekae
