/-
Plain facts of the pure functions, part 3; without conditions.
-/
import Derived.Test.YtgdokdkcbgkekafGfP4
import Derived.Test.YtgdokdkcbgkekafGfPG2
import Derived.Test.YtgdokdkcbgkekafGfPG1
import Derived.Test.YtgdokdkcbgkekafGfP2
import Derived.Test.YtgdokdkcbgkekafGfP6
import Derived.Test.YtgdokdkcbgkekafGfP3
import Derived.Test.YtgdokdkcbgkekafGfP5
import Derived.Test.YtgdokdkcbgkekafGfP1
set_option linter.unusedVariables false
set_option linter.unusedSimpArgs false
set_option linter.unusedSectionVars false
namespace Go.Lv.P
open Go Go.Lv
theorem spec_places_eq (F : Nat) (b : List Int) (hF : 1000 < F) : spec_l8Places_p F b = some (plm b) := by
  have hl := em_len b
  have h : spec_l8Places_l3 F (em b) 0 [] = some (plm b) := by
    refine (loop_fold (step := spec_l8Places_s3 F (em b)) (fun i a => (i, a)) (em b).length _ (fun a => a) (fun i a => a.length ≤ 2 * i) (F := F) (by omega) (by omega) (a := []) (by simp) (fun i a hi hI => ⟨?_, fun Q kn kx => ?_⟩) (fun a _ Q kn kx => by simp [spec_l8Places_s3])).1
    · simp; omega
    · have hf : ∀ x y : List Int, fits (a ++ [x, y]).length 24 = true := fun x y => fits_of (by simp; omega) (by simp; omega)
      simp only [spec_l8Places_s3, Int.ofNat_lt, inR_cast, hi, Int.toNat_natCast, decide_true, cond_true, subn_self, hf, Nat.zero_add]
  simp only [spec_l8Places_p, spec_l8Places_c, spec_empty_eq F b hF, h, Option.isSome_some, Option.getD_some, cond_true, beq_selfL, Bool.and_self]
end Go.Lv.P

namespace Go.Lv.P
open Go Go.Lv
/-- a board with a placement -/
def putP (b p : List Int) : List Int := iset b (0 + (iget p 0).toNat * 4 + (iget p 1).toNat * 1) (iget p 2)
theorem plm_in (b : List Int) : ∀ p ∈ plm b, inR (iget p 0) 4 = true ∧ inR (iget p 1) 4 = true ∧ inB (iget p 2) 1 2 = true := by
  rw [plm, fld_add]
  intro x hx
  simp only [List.nil_append, List.mem_flatMap, List.mem_cons, List.not_mem_nil, or_false] at hx
  obtain ⟨i, hi, hx⟩ := hx
  have hi : i < (em b).length := by
    have := List.mem_range'_1.1 hi
    omega
  have hm : rget (em b) i ∈ cells16 := by
    rw [rgetL, List.getElem?_eq_getElem hi]
    exact em_mem b _ (List.getElem_mem _)
  have key : ∀ c ∈ cells16, inR (iget c 0) 4 = true ∧ inR (iget c 1) 4 = true := cells_all fun r c hr hc => ⟨by show inR (r : Int) 4 = true; rw [inR_cast]; simpa using hr, by show inR (c : Int) 4 = true; rw [inR_cast]; simpa using hc⟩
  obtain ⟨k0, k1⟩ := key _ hm
  rcases hx with rfl | rfl
  · exact ⟨k0, k1, rfl⟩
  · exact ⟨k0, k1, rfl⟩
theorem rget_mem {l : LL} {i : Nat} (h : i < l.length) : rget l i ∈ l := by
  rw [rgetL, List.getElem?_eq_getElem h]
  exact List.getElem_mem _
theorem putP_ok {b p : List Int} (hb : b.length = 16) (ok : okB b = true) (h2 : inB (iget p 2) 1 2 = true) : (putP b p).length = 16 ∧ okB (putP b p) = true := by
  refine ⟨by rw [putP, iset_len]; exact hb, (okB_iff _).2 (iset_all ((okB_iff b).1 ok) _ ?_)⟩
  simp [inB] at h2
  simp [tileOK, inB]
  omega
end Go.Lv.P

namespace Go.Lv.P
open Go Go.Lv
section
variable {b : List Int} (hb : b.length = 16) (ok : okB b = true)
include hb ok
theorem impl_slides1 (F : Nat) (hF : 1000 < F) {d : Nat} (hd : d < 4) : impl_Board_slides_p F b [(d : Int)] = some (slideB b d).1 := by
  obtain ⟨m, hm⟩ := impl_slide hb ok F hF hd
  have h := loop_fold (step := impl_Board_slides_s2 F [(d : Int)] 1) (fun i (a : List Int) => (i, a)) 1 (fun i a => (slideB b d).1) (fun a => a) (fun i a => i = 0 → a = b) (F := F) (by omega) (by omega) (a := b) (fun _ => rfl)
    (fun i a hi h => by
      obtain rfl : i = 0 := by omega
      refine ⟨fun h => absurd h (by omega), fun Q kn kx => ?_⟩
      have h0 : ((0 : Nat) : Int) < 1 := by omega
      have hg : iget [(d : Int)] 0 = d := rfl
      simp only [impl_Board_slides_s2, h0, decide_true, cond_true, inR_cast, List.length_singleton, Nat.zero_lt_one, Int.toNat_natCast, hg, h rfl, hm, Option.isSome_some, Option.getD_some])
    (fun a _ Q kn kx => by simp [impl_Board_slides_s2])
  have e : impl_Board_slides_l2 F [(d : Int)] 1 0 b = some (slideB b d).1 := h.1
  have e' : (([(d : Int)].length : Nat) : Int) = 1 := rfl
  simp only [impl_Board_slides_p, impl_Board_slides_c, e', e, Option.isSome_some, Option.getD_some, cond_true]
end
end Go.Lv.P

namespace Go.Lv.P
open Go Go.Lv
/-- the two steps with a cell -/
def step1 (d : Int) (c : List Int) : List Int := iset (splice [d, 0, 0, 0] 1 c 2) 3 1
def step2 (d : Int) (c : List Int) : List Int := iset (splice [d, 0, 0, 0] 1 c 2) 3 2
/-- the steps onto a board -/
def stepsOn (n : List Int) (d : Int) : LL := fld (fun i a => a ++ [step1 d (rget (em n) i), step2 d (rget (em n) i)]) 0 (em n).length []
def stepsB (b : List Int) (d : Nat) : LL := bif (slideB b d).1 == b then [] else stepsOn (slideB b d).1 (d : Int)
theorem stepsOn_len (n : List Int) (d : Int) : (stepsOn n d).length = 2 * (em n).length := by
  rw [stepsOn, fld_add]
  have : ∀ m i, ((List.range' i m).flatMap fun i => [step1 d (rget (em n) i), step2 d (rget (em n) i)]).length = 2 * m := by
    intro m
    induction m with
    | zero => intro i; rfl
    | succ m ih => intro i; rw [List.range'_succ, List.flatMap_cons, List.length_append, ih]; simp; omega
  simpa using this (em n).length 0
theorem cells_len : ∀ x ∈ cells16, x.length = 2 := cells_all fun _ _ _ _ => rfl
theorem em_get {n : List Int} {i : Nat} (h : i < (em n).length) : rget (em n) i ∈ cells16 := by
  rw [rgetL, List.getElem?_eq_getElem h]
  exact em_mem n _ (List.getElem_mem _)
theorem step1_eq (d x y : Int) : step1 d [x, y] = [d, x, y, 1] := rfl
theorem step2_eq (d x y : Int) : step2 d [x, y] = [d, x, y, 2] := rfl
theorem stepsOn_mem (n : List Int) (d : Int) : ∀ x ∈ stepsOn n d, ∃ c ∈ em n, x = step1 d c ∨ x = step2 d c := by
  rw [stepsOn, fld_add]
  intro x hx
  simp only [List.nil_append, List.mem_flatMap, List.mem_cons, List.not_mem_nil, or_false] at hx
  obtain ⟨i, hi, hx⟩ := hx
  have hi : i < (em n).length := by
    have := List.mem_range'_1.1 hi
    omega
  refine ⟨rget (em n) i, ?_, hx⟩
  rw [rgetL, List.getElem?_eq_getElem hi]
  exact List.getElem_mem _
theorem stepsB_len (b : List Int) (d : Nat) : (stepsB b d).length ≤ 32 := by
  unfold stepsB
  generalize (slideB b d).1 = n
  cases n == b
  · have := stepsOn_len n d
    have := em_len n
    simp only [cond_false]
    omega
  · simp
theorem stepsB_mem (b : List Int) (d : Nat) : ∀ x ∈ stepsB b d, ∃ c ∈ em (slideB b d).1, x = step1 d c ∨ x = step2 d c := by
  unfold stepsB
  generalize (slideB b d).1 = n
  cases n == b
  · simp only [cond_false]; exact stepsOn_mem _ _
  · intro x hx; simp at hx
theorem stepsB_rows (b : List Int) (d : Nat) : ∀ x ∈ stepsB b d, x.length = 4 := by
  intro x hx
  obtain ⟨c, hc, h⟩ := stepsB_mem b d x hx
  obtain ⟨p, q, rfl⟩ := list2 (cells_len c (em_mem _ _ hc))
  rcases h with rfl | rfl <;> rfl
end Go.Lv.P

namespace Go.Lv.P
open Go Go.Lv
/-- the first placement behind which a board does not last, and whether there is one -/
def refF (L : List Int → Bool) (nx : List Int) : Bool × List Int := fnd (fun i => !L (putP nx (rget (plm nx) i))) (fun i => (true, rget (plm nx) i)) (false, default) 0 (plm nx).length
def refM (L : List Int → Bool) (nx : List Int) : List Int × Bool := bif (refF L nx).1 then ((refF L nx).2, true) else ([0, 0, 0], false)
def safeM (L : List Int → Bool) (b : List Int) (d : Nat) : Bool := bif (slideB b d).1 == b then false else !(refM L (slideB b d).1).2
def lastM (L : List Int → Bool) (b : List Int) : Bool := fnd (fun d => safeM L b d) (fun _ => true) false 0 4
def lastN : Nat → List Int → Bool
  | 0 => fun _ => true
  | n + 1 => lastM (lastN n)
theorem fnd_none {X : Type} (f : Nat → X) (e : X) (p : Nat → Bool) (h : ∀ i, p i = false) : ∀ (m i : Nat), fnd p f e i m = e
  | 0, _ => rfl
  | m + 1, i => by simp only [fnd, h, cond_false]; exact fnd_none f e p h m (i + 1)
theorem refM_0 (nx : List Int) : refM (lastN 0) nx = ([0, 0, 0], false) := by
  have : refF (lastN 0) nx = (false, default) := fnd_none _ _ _ (fun _ => rfl) _ _
  rw [refM, this]; rfl
theorem refM_len (L : List Int → Bool) (nx : List Int) : (refM L nx).1.length = 3 := by
  have key : ∀ (m i : Nat), i + m = (plm nx).length → (fnd (fun i => !L (putP nx (rget (plm nx) i))) (fun i => (true, rget (plm nx) i)) (false, default) i m).1 = true → (fnd (fun i => !L (putP nx (rget (plm nx) i))) (fun i => (true, rget (plm nx) i)) (false, default) i m).2.length = 3 := by
    intro m
    induction m with
    | zero => intro i _ h; cases h
    | succ m ih =>
      intro i hi h
      simp only [fnd] at h ⊢
      cases hc : (!L (putP nx (rget (plm nx) i))) with
      | true => exact plm_mem nx _ (rget_mem (by omega))
      | false => rw [hc] at h; exact ih (i + 1) (by omega) h
  unfold refM
  cases h : (refF L nx).1 with
  | true => exact key _ _ (by omega) h
  | false => rfl
/-- lasting, told by the moves -/
theorem lastM_moves (L : List Int → Bool) (b : List Int) : lastM L b = (movesB b).any fun x => !(refM L (slideB b x.toNat).1).2 := by
  have e : List.range 4 = [0, 1, 2, 3] := rfl
  rw [lastM, fnd_any, movesB_eq, e]
  simp only [safeM, List.any_cons, List.any_nil, List.filter]
  cases ((slideB b 0).1 == b) <;> cases ((slideB b 1).1 == b) <;> cases ((slideB b 2).1 == b) <;> cases ((slideB b 3).1 == b) <;> simp
theorem last1_moves (b : List Int) : lastN 1 b = !((((movesB b).length : Nat) : Int) == 0) := by
  show lastM (lastN 0) b = _
  rw [lastM_moves]
  simp only [refM_0, Bool.not_false]
  cases movesB b with
  | nil => rfl
  | cons x r =>
    simp
    omega
theorem safe_filter (L : List Int → Bool) (b : List Int) : (((List.range 4).filter fun d => safeM L b d).map fun d : Nat => (d : Int)) = (movesB b).filter fun x => !(refM L (slideB b x.toNat).1).2 := by
  have e : List.range 4 = [0, 1, 2, 3] := rfl
  rw [movesB_eq, e]
  simp only [safeM, List.filter]
  cases ((slideB b 0).1 == b) <;> cases ((slideB b 1).1 == b) <;> cases ((slideB b 2).1 == b) <;> cases ((slideB b 3).1 == b) <;>
    cases h0 : (refM L (slideB b 0).1).2 <;> cases h1 : (refM L (slideB b 1).1).2 <;> cases h2 : (refM L (slideB b 2).1).2 <;> cases h3 : (refM L (slideB b 3).1).2 <;> simp [List.filter, h0, h1, h2, h3]
theorem put_all {nx : List Int} (hb : nx.length = 16) (ok : okB nx = true) {p : List Int} (hp : p ∈ plm nx) :
    (inR (iget p 0) 4 = true ∧ inR (iget p 1) 4 = true) ∧ (putP nx p).length = 16 ∧ okB (putP nx p) = true :=
  have ⟨p0, p1, p2⟩ := plm_in nx _ hp
  ⟨⟨p0, p1⟩, putP_ok hb ok p2⟩
theorem plm_len40 (b : List Int) : (plm b).length ≤ 40 := by have := em_len b; rw [plm_len]; omega
end Go.Lv.P

namespace Go.Lv.P
open Go Go.Lv
section
variable {b : List Int} (hb : b.length = 16) (ok : okB b = true)
include hb ok
theorem impl_moves (F : Nat) (hF : 1000 < F) : impl_Board_moves_p F b = some (movesB b) := by
  have h := loop_fold (step := impl_Board_moves_s3 F b) (fun d a => (d, a)) 4 (fun d out => bif (!((slideB b d).1 == b)) then out ++ [(d : Int)] else out) (fun a => a) (fun d a => a.length ≤ d) (F := F) (by omega) (by omega) (a := []) (Nat.le_refl 0)
    (fun d out hd h => ⟨moves_step h, fun Q kn kx => by
      have hd' : (d : Int) < 4 := by omega
      have hf : fits (out ++ [(d : Int)]).length 8 = true := fits_of (by simp; omega) (by simp; omega)
      obtain ⟨m, hm⟩ := impl_slide hb ok F hF hd
      simp only [impl_Board_moves_s3, hd', decide_true, cond_true, hm, Option.isSome_some, Option.getD_some, subn_self, hf]
      cases (!((slideB b d).1 == b)) <;> rfl⟩) (fun a _ Q kn kx => by simp [impl_Board_moves_s3])
  simp only [impl_Board_moves_p, impl_Board_moves_c, impl_Board_moves_l3, h.1, Option.isSome_some, Option.getD_some, cond_true]
  rfl
end
end Go.Lv.P

namespace Go.Lv.P
open Go Go.Lv
section
variable {b : List Int} (hb : b.length = 16) (ok : okB b = true)
include hb ok
theorem spec_moves (F : Nat) (hF : 1000 < F) : spec_l2Moves_p F b = some (movesB b) ∧ (movesB b).length ≤ 4 := by
  have h := loop_fold (step := spec_l2Moves_s3 F b) (fun d a => (d, a)) 4 (fun d out => bif (!((slideB b d).1 == b)) then out ++ [(d : Int)] else out) (fun a => a) (fun d a => a.length ≤ d) (F := F) (by omega) (by omega) (a := []) (Nat.le_refl 0)
    (fun d out hd h => ⟨moves_step h, fun Q kn kx => by
      have hd' : (d : Int) < 4 := by omega
      have hf : fits (out ++ [(d : Int)]).length 8 = true := fits_of (by simp; omega) (by simp; omega)
      simp only [spec_l2Moves_s3, hd', decide_true, cond_true, spec_slide hb ok F hF hd, Option.isSome_some, Option.getD_some, subn_self, hf]
      cases (!((slideB b d).1 == b)) <;> rfl⟩) (fun a _ Q kn kx => by simp [spec_l2Moves_s3])
  refine ⟨?_, h.2⟩
  simp only [spec_l2Moves_p, spec_l2Moves_c, spec_l2Moves_l3, h.1, Option.isSome_some, Option.getD_some, cond_true]
  rfl
end
end Go.Lv.P

namespace Go.Lv.P
open Go Go.Lv
theorem impl_put {b p : List Int} (h0 : inR (iget p 0) 4 = true) (h1 : inR (iget p 1) 4 = true) : impl_Board_placed_p b p = some (putP b p) := by
  simp only [impl_Board_placed_p, impl_Board_placed_c, h0, h1, cond_true, putP]
end Go.Lv.P

namespace Go.Lv.P
open Go Go.Lv
theorem spec_put {b p : List Int} (h0 : inR (iget p 0) 4 = true) (h1 : inR (iget p 1) 4 = true) : spec_l8Put_p b p = some (putP b p) := by
  have e0 : iget [iget p 0, iget p 1] 0 = iget p 0 := rfl
  have e1 : iget [iget p 0, iget p 1] 1 = iget p 1 := rfl
  simp only [spec_l8Put_p, spec_l8Put_c, spec_l2Put_p, spec_l2Put_c, e0, e1, h0, h1, cond_true, Option.isSome_some, Option.getD_some, putP]
end Go.Lv.P

namespace Go.Lv.P
open Go Go.Lv
/-- is a board over behind a placement -/
def deadP (b p : List Int) : Bool := (((movesB (putP b p)).length : Nat) : Int) == 0
theorem dead_val (F : Nat) (b : List Int) (hb : b.length = 16) (hF : 1000 < F) : ∃ (n : Nat) (m v : LL) (o : Bool), spec_DeadPlaces_p F b = some (o, v) ∧ impl_DeadPlaces_p F b = some (n, o, m) ∧ m.take n = v ∧ v.length = n ∧ n ≤ m.length ∧ n ≤ 40 ∧ (∀ x ∈ v, x.length = 3) ∧ o = okB b ∧ v = (bif okB b then (plm b).filter (deadP b) else []) := by
  simp only [spec_DeadPlaces_p, spec_DeadPlaces_c, impl_DeadPlaces_p, impl_DeadPlaces_c, spec_places_eq F b hF, impl_places_eq F b hF, spec_l2Board_eq F b hb hF, impl_IsBoard_eq F b hb hF, Option.isSome_some, Option.getD_some, cond_true, beq_selfL, Bool.true_and]
  cases hB : okB b with
  | false => exact ⟨0, [], [], false, rfl, rfl, rfl, rfl, by simp, by simp, by simp, rfl, rfl⟩
  | true =>
    have hlen : (plm b).length ≤ 32 := by have := em_len b; rw [plm_len]; omega
    have hq : ∀ p ∈ plm b, (spec_l8Put_p b p = some (putP b p) ∧ impl_Board_placed_p b p = some (putP b p)) ∧ (putP b p).length = 16 ∧ okB (putP b p) = true := fun p hp => by
      obtain ⟨p0, p1, p2⟩ := plm_in b _ hp
      exact ⟨⟨spec_put p0 p1, impl_put p0 p1⟩, putP_ok hb hB p2⟩
    have hs := loop_fold (step := spec_DeadPlaces_s6 F b (plm b)) (fun i (s : LL) => (i, s)) (plm b).length (fun i out => bif deadP b (rget (plm b) i) then out ++ [rget (plm b) i] else out) (fun s => s) (fun i out => out.length ≤ i) (F := F) (by omega) (by omega) (a := []) (Nat.le_refl 0)
      (fun i out hi hI => ⟨by
          cases deadP b (rget (plm b) i)
          · simp; omega
          · simp; omega, fun Q kn kx => by
        obtain ⟨⟨q1, q2⟩, q3, q4⟩ := hq _ (rget_mem hi)
        have hm := (spec_moves q3 q4 F hF).1
        have hf : ∀ x : List Int, fits (out ++ [x]).length 24 = true := fun x => fits_of (by simp; omega) (by simp; omega)
        simp only [spec_DeadPlaces_s6, Int.ofNat_lt, hi, inR_cast, Int.toNat_natCast, decide_true, cond_true, Nat.zero_add, q1, hm, Option.isSome_some, Option.getD_some, subn_self, hf, deadP]
        cases ((((movesB (putP b (rget (plm b) i))).length : Nat) : Int) == 0) <;> rfl⟩) (fun s _ Q kn kx => by simp [spec_DeadPlaces_s6])
    have hs1 : spec_DeadPlaces_l6 F b (plm b) 0 [] = some ((plm b).filter (deadP b)) := by
      rw [← fld_filter]; exact hs.1
    obtain ⟨r, hr, hd⟩ := DeleteFunc_dead F (plm b) b (fun p => !deadP b p) (by omega) hF (fun p hp => by
      obtain ⟨⟨q1, q2⟩, q3, q4⟩ := hq p hp
      simp only [impl_DeadPlaces_f1_p, impl_DeadPlaces_f1_c, q2, impl_Board_isOver_p, impl_Board_isOver_c, impl_moves q3 q4 F hF, Option.isSome_some, Option.getD_some, cond_true, deadP])
    obtain ⟨d1, d2, d3⟩ := hd
    have e : ((plm b).filter fun x => !(!deadP b x)) = (plm b).filter (deadP b) := by simp only [Bool.not_not]
    rw [e] at d1 d2
    have dl : ((plm b).filter (deadP b)).length ≤ (plm b).length := List.length_filter_le _ _
    simp only [hs1, hr, Option.isSome_some, Option.getD_some, cond_true, Bool.not_true, cond_false]
    refine ⟨r.1, r.2, _, true, rfl, rfl, d2, d1.symm, by omega, by omega, fun x hx => plm_mem b x ((List.mem_filter.1 hx).1), rfl, rfl⟩
end Go.Lv.P

namespace Go.Lv.P
open Go Go.Lv
section
variable {b : List Int} (hb : b.length = 16) (ok : okB b = true)
include hb ok
theorem impl_isOver (F : Nat) (hF : 1000 < F) : impl_Board_isOver_p F b = some ((((movesB b).length : Nat) : Int) == 0) := by
  simp only [impl_Board_isOver_p, impl_Board_isOver_c, impl_moves hb ok F hF, Option.isSome_some, Option.getD_some, cond_true]
theorem impl_lasts_1 (F : Nat) (hF : 1000 < F) : impl_Board_lasts_n1_p F b = some (lastN 1 b) := by
  simp only [impl_Board_lasts_n1_p, impl_Board_lasts_n1_c, impl_isOver hb ok F hF, Option.isSome_some, Option.getD_some, cond_true, last1_moves]
theorem impl_ref_1 (F : Nat) (hF : 1000 < F) : impl_Board_refuted_n1_p F b = some (refM (lastN 1) b) := by
  have hl := plm_len40 b
  have h : impl_Board_refuted_n1_l2 F ((plm b).length : Int) b (plm b) 0 = some (refF (lastN 1) b) := by
    refine loop_find (step := impl_Board_refuted_n1_s2 F ((plm b).length : Int) b (plm b)) (fun i => i) (plm b).length _ _ _ (by omega) (by omega) (fun i hi Q kn kx => ?_) fun Q kn kx => ?_
    · obtain ⟨⟨p0, p1⟩, q3, q4⟩ := put_all hb ok (rget_mem hi)
      simp only [impl_Board_refuted_n1_s2, Int.ofNat_lt, hi, inR_cast, Int.toNat_natCast, decide_true, cond_true, Nat.zero_add, impl_put p0 p1, impl_lasts_1 q3 q4 F hF, Option.isSome_some, Option.getD_some]
    · simp [impl_Board_refuted_n1_s2]
  simp only [impl_Board_refuted_n1_p, impl_Board_refuted_n1_c, impl_places_eq F b hF, h, Option.isSome_some, Option.getD_some, cond_true, beq_selfL, Bool.and_self, refM]
  cases (refF (lastN 1) b).1 <;> rfl
theorem impl_safe_2 (F : Nat) (hF : 1000 < F) {d : Nat} (hd : d < 4) : impl_Board_isSafe_n2_p F b d = some (!(refM (lastN 1) (slideB b d).1).2) := by
  obtain ⟨l, o⟩ := slide_ok hb ok hd
  simp only [impl_Board_isSafe_n2_p, impl_Board_isSafe_n2_c, impl_slides1 hb ok F hF hd, impl_ref_1 l o F hF, Option.isSome_some, Option.getD_some, cond_true]
theorem impl_lasts_2 (F : Nat) (hF : 1000 < F) : impl_Board_lasts_n2_p F b = some (lastN 2 b) := by
  have hl := movesB_len b
  have hq : ∀ x ∈ movesB b, impl_Board_lasts_f1_n2_p F x b = some (!(refM (lastN 1) (slideB b x.toNat).1).2) := fun x hx => by
    obtain ⟨d, rfl, hd, _⟩ := movesB_mem hx
    simp only [impl_Board_lasts_f1_n2_p, impl_Board_lasts_f1_n2_c, impl_safe_2 hb ok F hF hd, Option.isSome_some, Option.getD_some, cond_true, Int.toNat_natCast]
  have hg : ∀ i, i < (movesB b).length → impl_Board_lasts_f1_n2_p F (iget (movesB b) i) b = some (!(refM (lastN 1) (slideB b (iget (movesB b) i).toNat).1).2) := fun i hi => by
    refine hq _ ?_
    rw [igetL, List.getElem?_eq_getElem hi]
    exact List.getElem_mem hi
  have h1 : slices_IndexFunc_intint_impl_Board_lasts_f1_n2_l2 F (movesB b) ((movesB b).length : Int) b 0 = some (fnd (fun i => !(refM (lastN 1) (slideB b (iget (movesB b) i).toNat).1).2) (fun i => (true, (i : Int))) (false, default) 0 (movesB b).length) := by
    refine loop_find (fun i => i) (movesB b).length _ _ _ (by omega) (by omega) (fun i hi Q kn kx => ?_) fun Q kn kx => ?_
    · simp only [slices_IndexFunc_intint_impl_Board_lasts_f1_n2_s2, inR_cast, hi, hg i hi, Int.toNat_natCast, decide_true, cond_true, Int.ofNat_lt, Option.isSome_some, Option.getD_some]
    · simp [slices_IndexFunc_intint_impl_Board_lasts_f1_n2_s2]
  have h2 := fnd_place (fun i => !(refM (lastN 1) (slideB b (iget (movesB b) i).toNat).1).2) (movesB b).length
  rw [any_iget (movesB b) fun x => !(refM (lastN 1) (slideB b x.toNat).1).2, ← lastM_moves] at h2
  generalize fnd (fun i => !(refM (lastN 1) (slideB b (iget (movesB b) i).toNat).1).2) (fun i => (true, (i : Int))) (false, default) 0 (movesB b).length = z at h1 h2
  simp only [impl_Board_lasts_n2_p, impl_Board_lasts_n2_c, impl_moves hb ok F hF, Option.isSome_some, Option.getD_some, cond_true, subn_self,
    slices_ContainsFunc_intint_impl_Board_lasts_f1_n2_p, slices_ContainsFunc_intint_impl_Board_lasts_f1_n2_c, slices_IndexFunc_intint_impl_Board_lasts_f1_n2_p, slices_IndexFunc_intint_impl_Board_lasts_f1_n2_c, h1]
  have h3 : lastN 2 b = lastM (lastN 1) b := rfl
  rw [h3, ← h2]
  cases z.1 <;> rfl
theorem impl_ref_2 (F : Nat) (hF : 1000 < F) : impl_Board_refuted_n2_p F b = some (refM (lastN 2) b) := by
  have hl := plm_len40 b
  have h : impl_Board_refuted_n2_l2 F ((plm b).length : Int) b (plm b) 0 = some (refF (lastN 2) b) := by
    refine loop_find (step := impl_Board_refuted_n2_s2 F ((plm b).length : Int) b (plm b)) (fun i => i) (plm b).length _ _ _ (by omega) (by omega) (fun i hi Q kn kx => ?_) fun Q kn kx => ?_
    · obtain ⟨⟨p0, p1⟩, q3, q4⟩ := put_all hb ok (rget_mem hi)
      simp only [impl_Board_refuted_n2_s2, Int.ofNat_lt, hi, inR_cast, Int.toNat_natCast, decide_true, cond_true, Nat.zero_add, impl_put p0 p1, impl_lasts_2 q3 q4 F hF, Option.isSome_some, Option.getD_some]
    · simp [impl_Board_refuted_n2_s2]
  simp only [impl_Board_refuted_n2_p, impl_Board_refuted_n2_c, impl_places_eq F b hF, h, Option.isSome_some, Option.getD_some, cond_true, beq_selfL, Bool.and_self, refM]
  cases (refF (lastN 2) b).1 <;> rfl
theorem impl_safe_3 (F : Nat) (hF : 1000 < F) {d : Nat} (hd : d < 4) : impl_Board_isSafe_n3_p F b d = some (!(refM (lastN 2) (slideB b d).1).2) := by
  obtain ⟨l, o⟩ := slide_ok hb ok hd
  simp only [impl_Board_isSafe_n3_p, impl_Board_isSafe_n3_c, impl_slides1 hb ok F hF hd, impl_ref_2 l o F hF, Option.isSome_some, Option.getD_some, cond_true]
theorem impl_lasts_3 (F : Nat) (hF : 1000 < F) : impl_Board_lasts_n3_p F b = some (lastN 3 b) := by
  have hl := movesB_len b
  have hq : ∀ x ∈ movesB b, impl_Board_lasts_f1_n3_p F x b = some (!(refM (lastN 2) (slideB b x.toNat).1).2) := fun x hx => by
    obtain ⟨d, rfl, hd, _⟩ := movesB_mem hx
    simp only [impl_Board_lasts_f1_n3_p, impl_Board_lasts_f1_n3_c, impl_safe_3 hb ok F hF hd, Option.isSome_some, Option.getD_some, cond_true, Int.toNat_natCast]
  have hg : ∀ i, i < (movesB b).length → impl_Board_lasts_f1_n3_p F (iget (movesB b) i) b = some (!(refM (lastN 2) (slideB b (iget (movesB b) i).toNat).1).2) := fun i hi => by
    refine hq _ ?_
    rw [igetL, List.getElem?_eq_getElem hi]
    exact List.getElem_mem hi
  have h1 : slices_IndexFunc_intint_impl_Board_lasts_f1_n3_l2 F (movesB b) ((movesB b).length : Int) b 0 = some (fnd (fun i => !(refM (lastN 2) (slideB b (iget (movesB b) i).toNat).1).2) (fun i => (true, (i : Int))) (false, default) 0 (movesB b).length) := by
    refine loop_find (fun i => i) (movesB b).length _ _ _ (by omega) (by omega) (fun i hi Q kn kx => ?_) fun Q kn kx => ?_
    · simp only [slices_IndexFunc_intint_impl_Board_lasts_f1_n3_s2, inR_cast, hi, hg i hi, Int.toNat_natCast, decide_true, cond_true, Int.ofNat_lt, Option.isSome_some, Option.getD_some]
    · simp [slices_IndexFunc_intint_impl_Board_lasts_f1_n3_s2]
  have h2 := fnd_place (fun i => !(refM (lastN 2) (slideB b (iget (movesB b) i).toNat).1).2) (movesB b).length
  rw [any_iget (movesB b) fun x => !(refM (lastN 2) (slideB b x.toNat).1).2, ← lastM_moves] at h2
  generalize fnd (fun i => !(refM (lastN 2) (slideB b (iget (movesB b) i).toNat).1).2) (fun i => (true, (i : Int))) (false, default) 0 (movesB b).length = z at h1 h2
  simp only [impl_Board_lasts_n3_p, impl_Board_lasts_n3_c, impl_moves hb ok F hF, Option.isSome_some, Option.getD_some, cond_true, subn_self,
    slices_ContainsFunc_intint_impl_Board_lasts_f1_n3_p, slices_ContainsFunc_intint_impl_Board_lasts_f1_n3_c, slices_IndexFunc_intint_impl_Board_lasts_f1_n3_p, slices_IndexFunc_intint_impl_Board_lasts_f1_n3_c, h1]
  have h3 : lastN 3 b = lastM (lastN 2) b := rfl
  rw [h3, ← h2]
  cases z.1 <;> rfl
theorem impl_lasts (F : Nat) (hF : 1000 < F) {n : Int} (hn : inB n 0 3 = true) : impl_Board_lasts_p F b n = some (lastN n.toNat b) := by
  simp [inB] at hn
  obtain rfl | rfl | rfl | rfl : n = 0 ∨ n = 1 ∨ n = 2 ∨ n = 3 := by omega
  · rfl
  · simp only [impl_Board_lasts_p, impl_Board_lasts_c, impl_lasts_1 hb ok F hF, Option.isSome_some, Option.getD_some, cond_true]; rfl
  · simp only [impl_Board_lasts_p, impl_Board_lasts_c, impl_lasts_2 hb ok F hF, Option.isSome_some, Option.getD_some, cond_true]; rfl
  · simp only [impl_Board_lasts_p, impl_Board_lasts_c, impl_lasts_3 hb ok F hF, Option.isSome_some, Option.getD_some, cond_true]; rfl
end
end Go.Lv.P

namespace Go.Lv.P
open Go Go.Lv
section
variable {b : List Int} (hb : b.length = 16) (ok : okB b = true)
include hb ok
theorem spec_safe_1 (F : Nat) (hF : 1000 < F) {d : Nat} (hd : d < 4) : spec_l8Safe_n1_p F b d = some (safeM (lastN 0) b d) := by
  simp only [spec_l8Safe_n1_p, spec_l8Safe_n1_c, spec_slide hb ok F hF hd, Option.isSome_some, Option.getD_some, cond_true, safeM, refM_0, Bool.not_false]
  cases (slideB b d).1 == b <;> rfl
theorem spec_lasts_1 (F : Nat) (hF : 1000 < F) : spec_l8Lasts_n1_p F b = some (lastN 1 b) := by
  have h : spec_l8Lasts_n1_l4 F b 0 = some (fnd (fun d => safeM (lastN 0) b d) (fun _ => true) false 0 4) := by
    refine loop_find (step := spec_l8Lasts_n1_s4 F b) (fun i => i) 4 _ _ _ (by omega) (by omega) (fun i hi Q kn kx => ?_) fun Q kn kx => ?_
    · have hi' : (i : Int) < 4 := by omega
      simp only [spec_l8Lasts_n1_s4, hi', decide_true, cond_true, spec_safe_1 hb ok F hF hi, Option.isSome_some, Option.getD_some]
    · simp [spec_l8Lasts_n1_s4]
  simp only [spec_l8Lasts_n1_p, spec_l8Lasts_n1_c, h, Option.isSome_some, Option.getD_some, cond_true]
  show _ = some (fnd (fun d => safeM (lastN 0) b d) (fun _ => true) false 0 4)
  cases fnd (fun d => safeM (lastN 0) b d) (fun _ => true) false 0 4 <;> rfl
theorem spec_ref_2 (F : Nat) (hF : 1000 < F) : spec_l8Refuted_n2_p F b = some (refM (lastN 1) b) := by
  have hl := plm_len40 b
  have h : spec_l8Refuted_n2_l5 F b (plm b) 0 = some (refF (lastN 1) b) := by
    refine loop_find (step := spec_l8Refuted_n2_s5 F b (plm b)) (fun i => i) (plm b).length (fun i => !lastN 1 (putP b (rget (plm b) i))) (fun i => (true, rget (plm b) i)) (false, default) (by omega) (by omega) (fun i hi Q kn kx => ?_) fun Q kn kx => ?_
    · obtain ⟨⟨p0, p1⟩, q3, q4⟩ := put_all hb ok (rget_mem hi)
      simp only [spec_l8Refuted_n2_s5, Int.ofNat_lt, hi, inR_cast, Int.toNat_natCast, decide_true, cond_true, Nat.zero_add, spec_put p0 p1, spec_lasts_1 q3 q4 F hF, Option.isSome_some, Option.getD_some]
    · simp [spec_l8Refuted_n2_s5]
  simp only [spec_l8Refuted_n2_p, spec_l8Refuted_n2_c, spec_places_eq F b hF, h, Option.isSome_some, Option.getD_some, cond_true, beq_selfL, Bool.and_self, refM]
  cases (refF (lastN 1) b).1 <;> rfl
theorem spec_safe_2 (F : Nat) (hF : 1000 < F) {d : Nat} (hd : d < 4) : spec_l8Safe_n2_p F b d = some (safeM (lastN 1) b d) := by
  obtain ⟨l, o⟩ := slide_ok hb ok hd
  simp only [spec_l8Safe_n2_p, spec_l8Safe_n2_c, spec_slide hb ok F hF hd, spec_ref_2 l o F hF, Option.isSome_some, Option.getD_some, cond_true, safeM]
  generalize (refM (lastN 1) (slideB b d).1).2 = u
  cases (slideB b d).1 == b
  · simp only [cond_false]
  · simp only [cond_true]
theorem spec_lasts_2 (F : Nat) (hF : 1000 < F) : spec_l8Lasts_n2_p F b = some (lastN 2 b) := by
  have h : spec_l8Lasts_n2_l4 F b 0 = some (fnd (fun d => safeM (lastN 1) b d) (fun _ => true) false 0 4) := by
    refine loop_find (step := spec_l8Lasts_n2_s4 F b) (fun i => i) 4 _ _ _ (by omega) (by omega) (fun i hi Q kn kx => ?_) fun Q kn kx => ?_
    · have hi' : (i : Int) < 4 := by omega
      simp only [spec_l8Lasts_n2_s4, hi', decide_true, cond_true, spec_safe_2 hb ok F hF hi, Option.isSome_some, Option.getD_some]
    · simp [spec_l8Lasts_n2_s4]
  simp only [spec_l8Lasts_n2_p, spec_l8Lasts_n2_c, h, Option.isSome_some, Option.getD_some, cond_true]
  show _ = some (fnd (fun d => safeM (lastN 1) b d) (fun _ => true) false 0 4)
  cases fnd (fun d => safeM (lastN 1) b d) (fun _ => true) false 0 4 <;> rfl
theorem spec_ref_3 (F : Nat) (hF : 1000 < F) : spec_l8Refuted_n3_p F b = some (refM (lastN 2) b) := by
  have hl := plm_len40 b
  have h : spec_l8Refuted_n3_l5 F b (plm b) 0 = some (refF (lastN 2) b) := by
    refine loop_find (step := spec_l8Refuted_n3_s5 F b (plm b)) (fun i => i) (plm b).length (fun i => !lastN 2 (putP b (rget (plm b) i))) (fun i => (true, rget (plm b) i)) (false, default) (by omega) (by omega) (fun i hi Q kn kx => ?_) fun Q kn kx => ?_
    · obtain ⟨⟨p0, p1⟩, q3, q4⟩ := put_all hb ok (rget_mem hi)
      simp only [spec_l8Refuted_n3_s5, Int.ofNat_lt, hi, inR_cast, Int.toNat_natCast, decide_true, cond_true, Nat.zero_add, spec_put p0 p1, spec_lasts_2 q3 q4 F hF, Option.isSome_some, Option.getD_some]
    · simp [spec_l8Refuted_n3_s5]
  simp only [spec_l8Refuted_n3_p, spec_l8Refuted_n3_c, spec_places_eq F b hF, h, Option.isSome_some, Option.getD_some, cond_true, beq_selfL, Bool.and_self, refM]
  cases (refF (lastN 2) b).1 <;> rfl
theorem spec_safe_3 (F : Nat) (hF : 1000 < F) {d : Nat} (hd : d < 4) : spec_l8Safe_n3_p F b d = some (safeM (lastN 2) b d) := by
  obtain ⟨l, o⟩ := slide_ok hb ok hd
  simp only [spec_l8Safe_n3_p, spec_l8Safe_n3_c, spec_slide hb ok F hF hd, spec_ref_3 l o F hF, Option.isSome_some, Option.getD_some, cond_true, safeM]
  generalize (refM (lastN 2) (slideB b d).1).2 = u
  cases (slideB b d).1 == b
  · simp only [cond_false]
  · simp only [cond_true]
theorem spec_lasts_3 (F : Nat) (hF : 1000 < F) : spec_l8Lasts_n3_p F b = some (lastN 3 b) := by
  have h : spec_l8Lasts_n3_l4 F b 0 = some (fnd (fun d => safeM (lastN 2) b d) (fun _ => true) false 0 4) := by
    refine loop_find (step := spec_l8Lasts_n3_s4 F b) (fun i => i) 4 _ _ _ (by omega) (by omega) (fun i hi Q kn kx => ?_) fun Q kn kx => ?_
    · have hi' : (i : Int) < 4 := by omega
      simp only [spec_l8Lasts_n3_s4, hi', decide_true, cond_true, spec_safe_3 hb ok F hF hi, Option.isSome_some, Option.getD_some]
    · simp [spec_l8Lasts_n3_s4]
  simp only [spec_l8Lasts_n3_p, spec_l8Lasts_n3_c, h, Option.isSome_some, Option.getD_some, cond_true]
  show _ = some (fnd (fun d => safeM (lastN 2) b d) (fun _ => true) false 0 4)
  cases fnd (fun d => safeM (lastN 2) b d) (fun _ => true) false 0 4 <;> rfl
theorem spec_lasts (F : Nat) (hF : 1000 < F) {n : Int} (hn : inB n 0 3 = true) : spec_l8Lasts_p F b n = some (lastN n.toNat b) := by
  simp [inB] at hn
  obtain rfl | rfl | rfl | rfl : n = 0 ∨ n = 1 ∨ n = 2 ∨ n = 3 := by omega
  · rfl
  · simp only [spec_l8Lasts_p, spec_l8Lasts_c, spec_lasts_1 hb ok F hF, Option.isSome_some, Option.getD_some, cond_true]; rfl
  · simp only [spec_l8Lasts_p, spec_l8Lasts_c, spec_lasts_2 hb ok F hF, Option.isSome_some, Option.getD_some, cond_true]; rfl
  · simp only [spec_l8Lasts_p, spec_l8Lasts_c, spec_lasts_3 hb ok F hF, Option.isSome_some, Option.getD_some, cond_true]; rfl
end
end Go.Lv.P

namespace Go.Lv.P
open Go Go.Lv
theorem rget_self (l : LL) (f : Nat → LL) (g : List Int → LL) (h : ∀ i, i < l.length → f i = g (rget l i)) : (List.range' 0 l.length).flatMap f = l.flatMap g := by
  have : ∀ (m i : Nat), i + m = l.length → (List.range' i m).flatMap f = (l.drop i).flatMap g := by
    intro m
    induction m with
    | zero => intro i hi; rw [List.drop_eq_nil_of_le (by omega)]; rfl
    | succ m ih =>
      intro i hi
      have hil : i < l.length := by omega
      have hg : rget l i = l[i] := by rw [rgetL, List.getElem?_eq_getElem hil]; rfl
      rw [List.range'_succ, List.flatMap_cons, ih (i + 1) (by omega), List.drop_eq_getElem_cons hil, List.flatMap_cons, h i hil, hg]
  simpa using this l.length 0 (by omega)
theorem plm_list (b : List Int) : plm b = (em b).flatMap fun c => [[iget c 0, iget c 1, 1], [iget c 0, iget c 1, 2]] := by
  rw [plm, fld_add, List.nil_append]
  exact rget_self _ _ _ fun i _ => rfl
theorem stepsOn_list (n : List Int) (d : Int) : stepsOn n d = (plm n).map fun p => d :: p := by
  rw [plm_list, List.map_flatMap, stepsOn, fld_add, List.nil_append]
  refine rget_self _ _ _ fun i hi => ?_
  obtain ⟨x, y, hc⟩ := list2 (cells_len _ (em_get hi))
  rw [hc]
  rfl
/-- what a placement is -/
theorem plm_is {b p : List Int} (h : p ∈ plm b) : ∃ (r c : Nat) (t : Int), p = [(r : Int), (c : Int), t] ∧ r < 4 ∧ c < 4 ∧ (t = 1 ∨ t = 2) ∧ iget b (r * 4 + c) = 0 := by
  rw [plm_list] at h
  simp only [List.mem_flatMap, List.mem_cons, List.not_mem_nil, or_false] at h
  obtain ⟨q, hq, h⟩ := h
  have hz : (iget b (plc q) == 0) = true := (List.mem_filter.1 hq).2
  have hz : iget b (plc q) = 0 := by simpa using hz
  have key : ∀ q ∈ cells16, ∃ r c : Nat, q = [(r : Int), (c : Int)] ∧ r < 4 ∧ c < 4 := cells_all fun r c hr hc => ⟨r, c, rfl, hr, hc⟩
  obtain ⟨r, c, rfl, hr, hc⟩ := key q (em_mem b q hq)
  have e : plc [(r : Int), (c : Int)] = r * 4 + c := by
    show 0 + (r : Int).toNat * 4 + (c : Int).toNat * 1 = _
    simp
  rw [e] at hz
  rcases h with rfl | rfl
  · exact ⟨r, c, 1, rfl, hr, hc, .inl rfl, hz⟩
  · exact ⟨r, c, 2, rfl, hr, hc, .inr rfl, hz⟩
theorem fld_rget {A : Type} (l : LL) (g : List Int → A → A) (s : A) : fld (fun i s => g (rget l i) s) 0 l.length s = l.foldl (fun s x => g x s) s := by
  have : ∀ (m i : Nat) (s : A), i + m = l.length → fld (fun i s => g (rget l i) s) i m s = (l.drop i).foldl (fun s x => g x s) s := by
    intro m
    induction m with
    | zero => intro i s h; rw [List.drop_eq_nil_of_le (by omega)]; rfl
    | succ m ih =>
      intro i s h
      have hi : i < l.length := by omega
      have hg : rget l i = l[i] := by rw [rgetL, List.getElem?_eq_getElem hi]; rfl
      simp only [fld]
      rw [ih (i + 1) _ (by omega), List.drop_eq_getElem_cons hi, List.foldl_cons, hg]
  simpa using this l.length 0 s (by omega)
/-- how many tenths a placement has, in its cell -/
def wgt (p : List Int) : Nat := bif iget p 2 == 2 then 1 else 9
theorem wgt_9 (p : List Int) : wgt p ≤ 9 := by
  unfold wgt
  cases iget p 2 == 2 <;> simp
theorem wsum (b : List Int) : (plm b).foldl (fun s p => s + wgt p) 0 = 10 * (em b).length := by
  rw [plm_list]
  have : ∀ (l : LL) (s : Nat), (l.flatMap fun c => [[iget c 0, iget c 1, (1 : Int)], [iget c 0, iget c 1, 2]]).foldl (fun s p => s + wgt p) s = s + 10 * l.length := by
    intro l
    induction l with
    | nil => intro s; simp
    | cons c l ih =>
      intro s
      rw [List.flatMap_cons, List.foldl_append, ih]
      show s + 9 + 1 + 10 * l.length = s + 10 * (l.length + 1)
      omega
  simpa using this (em b) 0
end Go.Lv.P

namespace Go.Lv.P
open Go Go.Lv
def lastsV (b : List Int) (n : Int) : Bool × Bool := bif okB b && inB n 0 3 then (lastN n.toNat b, true) else (false, false)
theorem lasts_val (F : Nat) (b : List Int) (hb : b.length = 16) (n : Int) (hF : 1000 < F) : spec_Lasts_p F b n = some (lastsV b n) ∧ impl_Lasts_p F b n = some (lastsV b n) := by
  unfold lastsV
  simp only [spec_Lasts_p, spec_Lasts_c, impl_Lasts_p, impl_Lasts_c, spec_l2Board_eq F b hb hF, impl_IsBoard_eq F b hb hF, Option.isSome_some, Option.getD_some, cond_true, l1In_eq, in_eq]
  cases hB : okB b with
  | false => exact ⟨rfl, rfl⟩
  | true =>
    cases hn : inB n 0 3 with
    | false => exact ⟨rfl, rfl⟩
    | true =>
      simp only [spec_lasts hb hB F hF hn, impl_lasts hb hB F hF hn, Option.isSome_some, Option.getD_some, cond_true, Bool.not_true, cond_false]
      exact ⟨rfl, rfl⟩
theorem how_loop {step : (Q : Type) → Int → (Int → Option Q) → (Int → Option Q) → Option Q} (L : Nat → Bool) (F : Nat) (hF : 1000 < F)
    (hs : ∀ n : Nat, n < 3 → ∀ (Q : Type) kn kx, step Q (n : Int) kn kx = bif L (n + 1) then kn (IntKind.wrap .i64 ((n : Int) + 1)) else kx (n : Int)) (he : ∀ (Q : Type) kn kx, step Q 3 kn kx = kx 3) :
    loopC step F 0 some = some (bif L 1 then (bif L 2 then (bif L 3 then 3 else 2) else 1) else 0) := by
  obtain ⟨G, rfl⟩ : ∃ G, F = G + 4 := ⟨F - 4, by omega⟩
  have w : ∀ n : Nat, n < 4 → IntKind.wrap .i64 ((n : Int) + 1) = ((n + 1 : Nat) : Int) := fun n hn => wrap_succ hn (by omega)
  have h0 := hs 0 (by omega); have h1 := hs 1 (by omega); have h2 := hs 2 (by omega)
  rw [w 0 (by omega)] at h0; rw [w 1 (by omega)] at h1; rw [w 2 (by omega)] at h2
  show loopC step (G + 4) ((0 : Nat) : Int) some = _
  simp only [loopC]
  rw [h0]
  cases L (0 + 1) with
  | false => rfl
  | true =>
    simp only [cond_true]
    rw [h1]
    cases L (1 + 1) with
    | false => rfl
    | true =>
      simp only [cond_true]
      rw [h2]
      cases L (2 + 1) with
      | false => rfl
      | true =>
        simp only [cond_true]
        exact he _ _ _
def howV (b : List Int) : Int × Bool := bif okB b then ((bif lastN 1 b then (bif lastN 2 b then (bif lastN 3 b then 3 else 2) else 1) else 0), true) else (0, false)
theorem how_val (F : Nat) (b : List Int) (hb : b.length = 16) (hF : 1000 < F) : spec_LastsHow_p F b = some (howV b) ∧ impl_LastsHow_p F b = some (howV b) := by
  unfold howV
  simp only [spec_LastsHow_p, spec_LastsHow_c, impl_LastsHow_p, impl_LastsHow_c, spec_l2Board_eq F b hb hF, impl_IsBoard_eq F b hb hF, Option.isSome_some, Option.getD_some, cond_true]
  cases hB : okB b with
  | false => first | exact ⟨trivial, trivial⟩ | exact ⟨rfl, rfl⟩
  | true =>
    have w : ∀ n : Nat, n < 3 → IntKind.wrap .i64 ((n : Int) + 1) = ((n + 1 : Nat) : Int) := fun n hn => wrap_succ hn (by omega)
    have hi : ∀ n : Nat, n < 3 → inB ((n + 1 : Nat) : Int) 0 3 = true := fun n hn => by simp [inB]; omega
    have hs := how_loop (step := spec_LastsHow_s4 F b) (fun n => lastN n b) F hF (fun n hn Q kn kx => by
      have hn' : (n : Int) < 3 := by omega
      simp only [spec_LastsHow_s4, hn', decide_true, cond_true]
      rw [w n hn]
      simp only [spec_lasts hb hB F hF (hi n hn), Option.isSome_some, Option.getD_some, cond_true, Int.toNat_natCast]) (fun Q kn kx => by simp [spec_LastsHow_s4])
    have hm := how_loop (step := impl_LastsHow_s4 F b) (fun n => lastN n b) F hF (fun n hn Q kn kx => by
      have hn' : (n : Int) < 3 := by omega
      simp only [impl_LastsHow_s4, hn', decide_true, cond_true]
      rw [w n hn]
      simp only [impl_lasts hb hB F hF (hi n hn), Option.isSome_some, Option.getD_some, cond_true, Int.toNat_natCast]) (fun Q kn kx => by simp [impl_LastsHow_s4])
    simp only [spec_LastsHow_l4, impl_LastsHow_l4, hs, hm, Option.isSome_some, Option.getD_some, cond_true, Bool.not_true, cond_false]
    first | exact ⟨trivial, trivial⟩ | exact ⟨rfl, rfl⟩
theorem lastM_mono {L L' : List Int → Bool} (h : ∀ x, L x = true → L' x = true) (b : List Int) (hl : lastM L b = true) : lastM L' b = true := by
  have href : ∀ nx, (refM L nx).2 = false → (refM L' nx).2 = false := fun nx => by
    have key : ∀ (m i : Nat), (fnd (fun i => !L (putP nx (rget (plm nx) i))) (fun i => (true, rget (plm nx) i)) (false, default) i m).1 = false → (fnd (fun i => !L' (putP nx (rget (plm nx) i))) (fun i => (true, rget (plm nx) i)) (false, default) i m).1 = false := by
      intro m
      induction m with
      | zero => intro i _; rfl
      | succ m ih =>
        intro i h1
        simp only [fnd] at h1 ⊢
        cases hc : L (putP nx (rget (plm nx) i)) with
        | false => rw [hc] at h1; cases h1
        | true =>
          rw [hc] at h1
          rw [h _ hc]
          exact ih (i + 1) h1
    unfold refM
    intro h1
    have e : (refF L nx).1 = false := by
      cases hq : (refF L nx).1 with
      | false => rfl
      | true => rw [hq] at h1; cases h1
    have e2 : (refF L' nx).1 = false := key _ _ e
    rw [e2]; rfl
  rw [lastM_moves, List.any_eq_true] at hl ⊢
  obtain ⟨x, hx, h1⟩ := hl
  refine ⟨x, hx, ?_⟩
  rw [Bool.not_eq_true'] at h1 ⊢
  exact href _ h1
theorem last_down (n : Nat) : ∀ b : List Int, lastN (n + 1) b = true → lastN n b = true := by
  induction n with
  | zero => intro b _; rfl
  | succ n ih => intro b h; exact lastM_mono ih b h
theorem how_same {b : List Int} {n : Int} (h : (lastsV b n).2 = true) : ((lastsV b n).1 == decide (n ≤ (howV b).1)) = true := by
  unfold lastsV at h ⊢
  unfold howV
  cases hq : (okB b && inB n 0 3) with
  | false => rw [hq] at h; cases h
  | true =>
    simp only [Bool.and_eq_true] at hq
    obtain ⟨h1, h2⟩ := hq
    rw [h1, cond_true, cond_true]
    simp [inB] at h2
    obtain ⟨k, rfl⟩ := Int.eq_ofNat_of_zero_le h2.1
    have key : ∀ (A : Nat → Bool), A 0 = true → (A 2 = true → A 1 = true) → (A 3 = true → A 2 = true) → ∀ k : Nat, k ≤ 3 → (A k == decide ((k : Int) ≤ (bif A 1 then (bif A 2 then (bif A 3 then 3 else 2) else 1) else 0))) = true := by
      intro A h0 h1 h2 k hk
      obtain rfl | rfl | rfl | rfl : k = 0 ∨ k = 1 ∨ k = 2 ∨ k = 3 := by omega
      · rw [h0]
        cases A 1 <;> cases A 2 <;> cases A 3 <;> rfl
      · cases A 1 <;> cases A 2 <;> cases A 3 <;> rfl
      · revert h1
        cases A 1 <;> cases A 2 <;> cases A 3 <;> intro h1 <;> first | rfl | (exact absurd (h1 rfl) (by decide))
      · revert h1 h2
        cases A 1 <;> cases A 2 <;> cases A 3 <;> intro h1 h2 <;> first | rfl | (exact absurd (h1 rfl) (by decide)) | (exact absurd (h2 rfl) (by decide))
    rw [Int.toNat_natCast]
    have l0 : lastN 0 b = true := rfl
    have l1 := last_down 1 b
    have l2 := last_down 2 b
    have h := key (fun j => lastN j b) l0 l1 l2 k (by omega)
    simp only [cond_true] at h ⊢
    exact h
end Go.Lv.P

namespace Go.Lv.P
open Go Go.Lv
theorem inR_of {x : Int} (h : inB x 0 3 = true) : inR x 4 = true := by
  simp [inB] at h
  exact inR_true h.1 (by omega)
theorem isCell_eq (c : List Int) : impl_isCell_v c = (inB (iget c 0) 0 3 && inB (iget c 1) 0 3) := by
  simp only [impl_isCell_v, in_eq, cond_and]
/-- the place of a cell -/
def pos (c : List Int) : Nat := 0 + (iget c 0).toNat * 4 + (iget c 1).toNat * 1
theorem at_eq {c b : List Int} (h0 : inB (iget c 0) 0 3 = true) (h1 : inB (iget c 1) 0 3 = true) : impl_Board_at_p c b = some (pos c) := by
  simp only [impl_Board_at_p, impl_Board_at_c, inR_of h0, inR_of h1, cond_true, pos]
/-- a placement is put -/
theorem place_plm (F : Nat) (hF : 1000 < F) {b : List Int} (hb : b.length = 16) (ok : okB b = true) {p : List Int} (hp : p ∈ plm b) : impl_PlaceTile_p F b p = some (putP b p, true) := by
  obtain ⟨r, c, t, rfl, hr, hc, ht, hz⟩ := plm_is hp
  have g0 : iget [(r : Int), (c : Int), t] 0 = r := rfl
  have g1 : iget [(r : Int), (c : Int), t] 1 = c := rfl
  have g2 : iget [(r : Int), (c : Int), t] 2 = t := rfl
  have h2 : inB t 1 2 = true := by rcases ht with rfl | rfl <;> rfl
  have h17 : inB t 1 17 = true := by rcases ht with rfl | rfl <;> rfl
  have h0 : inB (iget [(r : Int), (c : Int)] 0) 0 3 = true := by show inB (r : Int) 0 3 = true; simp [inB]; omega
  have h1 : inB (iget [(r : Int), (c : Int)] 1) 0 3 = true := by show inB (c : Int) 0 3 = true; simp [inB]; omega
  have hpos : pos [(r : Int), (c : Int)] = r * 4 + c := by
    show 0 + (r : Int).toNat * 4 + (c : Int).toNat * 1 = r * 4 + c
    simp only [Int.toNat_natCast]; omega
  have hput : putP b [(r : Int), (c : Int), t] = iset b (r * 4 + c) t := by
    show iset b (0 + (r : Int).toNat * 4 + (c : Int).toNat * 1) t = _
    rw [show 0 + (r : Int).toNat * 4 + (c : Int).toNat * 1 = r * 4 + c by simp only [Int.toNat_natCast]; omega]
  have hz2 : (iget b (r * 4 + c) == 0) = true := by rw [hz]; rfl
  simp only [impl_PlaceTile_p, impl_PlaceTile_c, impl_PutTile_p, impl_PutTile_c, impl_IsBoard_eq F b hb hF, ok, isCell_eq, in_eq, g0, g1, g2, h0, h1, h2, h17, at_eq h0 h1, hpos, hz2, hput, Option.isSome_some, Option.getD_some, cond_true, cond_false, Bool.not_true, Bool.and_self]
end Go.Lv.P

namespace Go.Lv.P
open Go Go.Lv
section
variable {b : List Int} (hb : b.length = 16) (ok : okB b = true)
include hb ok
theorem impl_ref_0 (F : Nat) (hF : 1000 < F) : impl_Board_refuted_n0_p F b = some () := by
  have hl := plm_len40 b
  have h : impl_Board_refuted_n0_l2 F ((plm b).length : Int) b (plm b) 0 = some (fnd (fun _ => false) (fun _ => default) default 0 (plm b).length) := by
    refine loop_find (step := impl_Board_refuted_n0_s2 F ((plm b).length : Int) b (plm b)) (fun i => i) (plm b).length _ _ _ (by omega) (by omega) (fun i hi Q kn kx => ?_) fun Q kn kx => ?_
    · obtain ⟨⟨p0, p1⟩, q3, q4⟩ := put_all hb ok (rget_mem hi)
      simp only [impl_Board_refuted_n0_s2, Int.ofNat_lt, hi, inR_cast, Int.toNat_natCast, decide_true, cond_true, cond_false, Nat.zero_add, impl_put p0 p1, Option.isSome_some, Option.getD_some]
    · simp [impl_Board_refuted_n0_s2]
  simp only [impl_Board_refuted_n0_p, impl_Board_refuted_n0_c, impl_places_eq F b hF, h, Option.isSome_some, Option.getD_some, cond_true, beq_selfL, Bool.and_self]
theorem spec_ref (F : Nat) (hF : 1000 < F) {n : Int} (hn : inB n 1 3 = true) : spec_l8Refuted_p F b n = some (refM (lastN (n - 1).toNat) b) := by
  simp [inB] at hn
  obtain rfl | rfl | rfl : n = 1 ∨ n = 2 ∨ n = 3 := by omega
  · have e : (1 - 1 : Int).toNat = 0 := rfl
    rw [e, refM_0]; rfl
  · simp only [spec_l8Refuted_p, spec_l8Refuted_c, spec_ref_2 hb ok F hF, Option.isSome_some, Option.getD_some, cond_true]; rfl
  · simp only [spec_l8Refuted_p, spec_l8Refuted_c, spec_ref_3 hb ok F hF, Option.isSome_some, Option.getD_some, cond_true]; rfl
theorem impl_ref (F : Nat) (hF : 1000 < F) {n : Int} (hn : inB n 1 3 = true) : impl_Board_refuted_p F b (IntKind.wrap .i64 (n - 1)) = some (refM (lastN (n - 1).toNat) b) := by
  simp [inB] at hn
  rw [wrap_of (by omega) (by omega)]
  obtain rfl | rfl | rfl : n = 1 ∨ n = 2 ∨ n = 3 := by omega
  · have e : (1 - 1 : Int).toNat = 0 := rfl
    rw [e, refM_0]
    simp only [impl_Board_refuted_p, impl_Board_refuted_c, impl_ref_0 hb ok F hF, Option.isSome_some, Option.getD_some, cond_true]; rfl
  · simp only [impl_Board_refuted_p, impl_Board_refuted_c, impl_ref_1 hb ok F hF, Option.isSome_some, Option.getD_some, cond_true]; rfl
  · simp only [impl_Board_refuted_p, impl_Board_refuted_c, impl_ref_2 hb ok F hF, Option.isSome_some, Option.getD_some, cond_true]; rfl
end
def refV (b : List Int) (d n : Int) : List Int × Bool := bif okB b && inB d 0 3 && inB n 1 3 && !((slideB b d.toNat).1 == b) then refM (lastN (n - 1).toNat) (slideB b d.toNat).1 else ([0, 0, 0], false)
theorem ref_val (F : Nat) (b : List Int) (hb : b.length = 16) (d n : Int) (hF : 1000 < F) : spec_RefuteMove_p F b d n = some (refV b d n) ∧ impl_RefuteMove_p F b d n = some (refV b d n) := by
  unfold refV
  simp only [spec_RefuteMove_p, spec_RefuteMove_c, impl_RefuteMove_p, impl_RefuteMove_c, impl_Board_isMove_p, impl_Board_isMove_c, spec_l2Board_eq F b hb hF, impl_IsBoard_eq F b hb hF, Option.isSome_some, Option.getD_some, cond_true, spec_l2Side_v, impl_isDirection_v, l1In_eq, in_eq]
  cases hB : okB b with
  | false => exact ⟨rfl, rfl⟩
  | true =>
    cases hd : inB d 0 3 with
    | false => exact ⟨rfl, rfl⟩
    | true =>
      obtain ⟨d, rfl, hd4⟩ : ∃ k : Nat, d = k ∧ k < 4 := by
        simp [inB] at hd
        exact ⟨d.toNat, by omega, by omega⟩
      obtain ⟨l, o⟩ := slide_ok hb hB hd4
      simp only [Int.toNat_natCast]
      simp only [spec_slide hb hB F hF hd4, impl_slides1 hb hB F hF hd4, Option.isSome_some, Option.getD_some, cond_true, Bool.not_true, cond_false]
      cases hn : inB n 1 3 with
      | false => cases (slideB b d).1 == b <;> exact ⟨rfl, rfl⟩
      | true =>
        simp only [spec_ref l o F hF hn, impl_ref l o F hF hn, Option.isSome_some, Option.getD_some, cond_true, Bool.not_true, cond_false]
        generalize refM (lastN (n - 1).toNat) (slideB b d).1 = rm
        cases (slideB b d).1 == b <;> exact ⟨rfl, rfl⟩
/-- what refutes is a placement behind which the board does not last -/
theorem refM_is (L : List Int → Bool) (nx : List Int) (h : (refM L nx).2 = true) : (refM L nx).1 ∈ plm nx ∧ L (putP nx (refM L nx).1) = false := by
  have key : ∀ (m i : Nat), i + m = (plm nx).length → (fnd (fun i => !L (putP nx (rget (plm nx) i))) (fun i => (true, rget (plm nx) i)) (false, default) i m).1 = true →
      (fnd (fun i => !L (putP nx (rget (plm nx) i))) (fun i => (true, rget (plm nx) i)) (false, default) i m).2 ∈ plm nx ∧ L (putP nx (fnd (fun i => !L (putP nx (rget (plm nx) i))) (fun i => (true, rget (plm nx) i)) (false, default) i m).2) = false := by
    intro m
    induction m with
    | zero => intro i _ h; cases h
    | succ m ih =>
      intro i hi h
      simp only [fnd] at h ⊢
      cases hc : L (putP nx (rget (plm nx) i)) with
      | false => exact ⟨rget_mem (by omega), hc⟩
      | true => rw [hc] at h; exact ih (i + 1) (by omega) h
  unfold refM at h ⊢
  cases hq : (refF L nx).1 with
  | false => rw [hq] at h; cases h
  | true => exact key _ _ (by omega) hq
end Go.Lv.P
