/-
Fractions in lowest terms.
-/
import Derived.Test.YtloemkielkdegaaTIP0
import Derived.Test.YtloemkielkdegaaTIP1
import Derived.Test.YtloemkielkdegaaTIP3
import Derived.Test.YtloemkielkdegaaTIP4
import Derived.Test.YtloemkielkdegaaTIPGcdC
import Derived.Test.YtloemkielkdegaaTIPPlm
namespace Go.Lv.P
open Go Go.Lv
set_option linter.unusedVariables false
set_option linter.unusedSimpArgs false
set_option linter.unusedSectionVars false

def red (n d : Nat) : Nat × Nat := (n / Nat.gcd n d, d / Nat.gcd n d)
def toL (p : Nat × Nat) : List Int := [((p.1 : Nat) : Int), ((p.2 : Nat) : Int)]
theorem red_mul {n d c : Nat} (hc : 0 < c) : red (n * c) (d * c) = red n d := by
  unfold red
  rw [Nat.gcd_mul_right, Nat.mul_div_mul_right _ _ hc, Nat.mul_div_mul_right _ _ hc]
theorem red_ratio {n d n' d' : Nat} (hd : 0 < d) (hd' : 0 < d') (h : n * d' = n' * d) : red n d = red n' d' := by
  rw [← red_mul (n := n) (d := d) hd', ← red_mul (n := n') (d := d') hd, h, Nat.mul_comm d d']
theorem red_eq (n d : Nat) : (red n d).1 * d = n * (red n d).2 := by
  have h1 := Nat.div_mul_cancel (Nat.gcd_dvd_left n d)
  have h2 := Nat.div_mul_cancel (Nat.gcd_dvd_right n d)
  show n / Nat.gcd n d * d = n * (d / Nat.gcd n d)
  generalize Nat.gcd n d = g at *
  generalize n / g = p at *
  generalize d / g = q at *
  subst h1 h2
  rw [Nat.mul_assoc, Nat.mul_comm g q]
theorem red_pos {n d : Nat} (hd : 0 < d) : 0 < (red n d).2 := Nat.div_pos (Nat.le_of_dvd hd (Nat.gcd_dvd_right n d)) (Nat.gcd_pos_of_pos_right _ hd)
theorem red_dvd (n d : Nat) : (red n d).2 ∣ d := ⟨Nat.gcd n d, (Nat.div_mul_cancel (Nat.gcd_dvd_right n d)).symm⟩
theorem red_le1 (n d : Nat) : (red n d).1 ≤ n := Nat.div_le_self _ _
theorem red_le2 (n d : Nat) : (red n d).2 ≤ d := Nat.div_le_self _ _
theorem red_plus {a b c e : Nat} (hb : 0 < b) (he : 0 < e) : red ((red a b).1 * (red c e).2 + (red c e).1 * (red a b).2) ((red a b).2 * (red c e).2) = red (a * e + c * b) (b * e) := by
  refine red_ratio (Nat.mul_pos (red_pos hb) (red_pos he)) (Nat.mul_pos hb he) ?_
  have h1 := red_eq a b
  have h2 := red_eq c e
  generalize red a b = x at *
  generalize red c e = y at *
  grind
theorem red_zero {d : Nat} (hd : 0 < d) : red 0 d = (0, 1) := by unfold red; rw [Nat.gcd_zero_left, Nat.zero_div, Nat.div_self hd]
theorem red_one (n : Nat) : red n 1 = (n, 1) := by unfold red; simp
theorem red_self {d : Nat} (hd : 0 < d) : red d d = (1, 1) := by unfold red; rw [Nat.gcd_self, Nat.div_self hd]
theorem red_whole (n : Nat) {d : Nat} (hd : 0 < d) : red (n * d) d = (n, 1) := by
  rw [← red_one n]
  exact red_ratio hd Nat.one_pos (by rw [Nat.mul_one])
theorem red_0 {n d : Nat} (hd : 0 < d) (h : (red n d).1 = 0) : red n d = (0, 1) := by
  have e := red_eq n d
  have p := red_pos (n := n) hd
  rw [h, Nat.zero_mul] at e
  rcases Nat.mul_eq_zero.1 e.symm with h0 | h0
  · rw [h0]; exact red_zero hd
  · omega
theorem red_M {n d M : Nat} (hd : 0 < d) (h : n ≤ M * d) : (red n d).1 ≤ M * (red n d).2 := by
  have e := red_eq n d
  generalize red n d = x at *
  refine Nat.le_of_mul_le_mul_right ?_ hd
  rw [e]
  have := Nat.mul_le_mul_right x.2 h
  have e2 : M * x.2 * d = M * d * x.2 := by rw [Nat.mul_assoc, Nat.mul_comm x.2 d, ← Nat.mul_assoc]
  omega
theorem toL_beq (x y : Nat × Nat) : (toL x == toL y) = (x == y) := by
  obtain ⟨a, b⟩ := x
  obtain ⟨c, d⟩ := y
  rw [Bool.eq_iff_iff]
  simp [toL, Int.ofNat_inj]
theorem cutL (F a b : Nat) (hb : 0 < b) (hF : b < F) (ha : a < 2 ^ 62) (hb2 : b < 2 ^ 62) : spec_l9Cut_p F a b = some (toL (red a b)) := cut_eq F a b hb hF ha hb2
theorem fracL (F a b : Nat) (hb : 0 < b) (hF : b < F) (ha : a < 2 ^ 62) (hb2 : b < 2 ^ 62) : impl_fraction_p F a b = some (toL (red a b)) := fraction_eq F a b hb hF ha hb2
theorem toL0 (x : Nat × Nat) : iget (toL x) 0 = ((x.1 : Nat) : Int) := rfl
theorem toL1 (x : Nat × Nat) : iget (toL x) 1 = ((x.2 : Nat) : Int) := rfl
section
variable {F : Nat} {x y : Nat × Nat} (hx : 0 < x.2) (hy : 0 < y.2) (h1 : x.1 * y.2 + y.1 * x.2 < 2 ^ 62) (h2 : x.2 * y.2 < 2 ^ 62) (hF : x.2 * y.2 < F)
include hx hy h1 h2 hF
theorem spec_plusL : spec_l9Plus_p F (toL x) (toL y) = some (toL (red (x.1 * y.2 + y.1 * x.2) (x.2 * y.2))) := by
  simp only [spec_l9Plus_p, spec_l9Plus_c, toL0, toL1, ← Int.natCast_mul]
  rw [wi' (x.1 * y.2) (by omega), wi' (y.1 * x.2) (by omega), ← Int.natCast_add, wi' (x.1 * y.2 + y.1 * x.2) (by omega), wi' (x.2 * y.2) (by omega), cutL F _ _ (Nat.mul_pos hx hy) hF h1 h2]
  rfl
theorem impl_plusL : impl_plus_p F (toL x) (toL y) = some (toL (red (x.1 * y.2 + y.1 * x.2) (x.2 * y.2))) := by
  simp only [impl_plus_p, impl_plus_c, toL0, toL1, ← Int.natCast_mul]
  rw [wi' (x.1 * y.2) (by omega), wi' (y.1 * x.2) (by omega), ← Int.natCast_add, wi' (x.1 * y.2 + y.1 * x.2) (by omega), wi' (x.2 * y.2) (by omega), fracL F _ _ (Nat.mul_pos hx hy) hF h1 h2]
  rfl
end
theorem spec_partL {F : Nat} {v : Nat × Nat} {w E : Nat} (hv : 0 < v.2) (hE : 0 < E) (h1 : v.1 * w < 2 ^ 62) (h2 : v.2 * E < 2 ^ 62) (hF : v.2 * E < F) : spec_l9Part_p F (toL v) ((w : Nat) : Int) ((E : Nat) : Int) = some (toL (red (v.1 * w) (v.2 * E))) := by
  simp only [spec_l9Part_p, spec_l9Part_c, toL0, toL1, ← Int.natCast_mul]
  rw [wi' (v.1 * w) (by omega), wi' (v.2 * E) (by omega), cutL F _ _ (Nat.mul_pos hv hE) hF h1 h2]
  rfl
def lessF (x y : Nat × Nat) : Bool := decide (x.1 * y.2 < y.1 * x.2)
theorem spec_lessL {x y : Nat × Nat} (h1 : x.1 * y.2 < 2 ^ 63) (h2 : y.1 * x.2 < 2 ^ 63) : spec_l9Less_v (toL x) (toL y) = lessF x y := by
  simp only [spec_l9Less_v, toL0, toL1, ← Int.natCast_mul, wi' _ h1, wi' _ h2, Int.ofNat_lt, lessF]
theorem impl_lessL {x y : Nat × Nat} (h1 : x.1 * y.2 < 2 ^ 63) (h2 : y.1 * x.2 < 2 ^ 63) : impl_isLess_v (toL x) (toL y) = lessF x y := by
  simp only [impl_isLess_v, toL0, toL1, ← Int.natCast_mul, wi' _ h1, wi' _ h2, Int.ofNat_lt, lessF]

/-- the value of a board, over a common denominator -/
def am (v : List Int → Nat × Nat) (D : Nat) (o : List Int) : Nat := (v o).1 * (D / (v o).2)
def asum (v : List Int → Nat × Nat) (D : Nat) (nx : List Int) : Nat := (plm nx).foldl (fun s p => s + wgt p * am v D (putP nx p)) 0
theorem am_eq {v : List Int → Nat × Nat} {D : Nat} {o : List Int} (h : (v o).2 ∣ D) : (v o).1 * D = am v D o * (v o).2 := by
  unfold am
  have h1 := Nat.div_mul_cancel h
  rw [Nat.mul_assoc, h1]
theorem am_M {v : List Int → Nat × Nat} {D M : Nat} {o : List Int} (h : (v o).2 ∣ D) (h0 : 0 < (v o).2) (hM : (v o).1 ≤ M * (v o).2) : am v D o ≤ M * D := by
  unfold am
  have h1 := Nat.div_mul_cancel h
  generalize D / (v o).2 = k at *
  subst h1
  have := Nat.mul_le_mul_right k hM
  have e : M * (k * (v o).2) = M * (v o).2 * k := by rw [Nat.mul_comm k, Nat.mul_assoc]
  omega
theorem asum_le {v : List Int → Nat × Nat} {D M : Nat} {nx : List Int} (h : ∀ p ∈ plm nx, am v D (putP nx p) ≤ M * D) : asum v D nx ≤ M * (D * (10 * (em nx).length)) := by
  have key : ∀ (l : LL) (s s' : Nat), (∀ p ∈ l, am v D (putP nx p) ≤ M * D) → s ≤ M * D * s' → l.foldl (fun s p => s + wgt p * am v D (putP nx p)) s ≤ M * D * l.foldl (fun s p => s + wgt p) s' := by
    intro l
    induction l with
    | nil => intro s s' _ h; exact h
    | cons p l ih =>
      intro s s' hl h
      refine ih _ _ (fun q hq => hl q (List.mem_cons_of_mem _ hq)) ?_
      have h1 := hl p List.mem_cons_self
      have h2 := Nat.mul_le_mul_left (wgt p) h1
      show s + wgt p * am v D (putP nx p) ≤ M * D * (s' + wgt p)
      rw [Nat.mul_add, Nat.mul_comm (M * D) (wgt p)]
      omega
  have := key (plm nx) 0 0 h (Nat.zero_le _)
  rw [wsum] at this
  rw [← Nat.mul_assoc]
  exact this
section
variable {F D A B c : Nat} {v : List Int → Nat × Nat} {nx : List Int} (hF : 1000 < F) (hroom : 0 < (em nx).length) (hD : 0 < D)
  (hv : ∀ p ∈ plm nx, 0 < (v (putP nx p)).2 ∧ (v (putP nx p)).2 ∣ D ∧ (v (putP nx p)).1 ≤ A ∧ (v (putP nx p)).2 ≤ B)
  (n1 : (c + 360 * (A * D)) * (160 * B) + 9 * A * (160 * D) < 2 ^ 62) (n2 : 160 * D * (160 * B) < 2 ^ 62) (n3 : 160 * D * (160 * B) < F)
include hF hroom hD hv n1 n2 n3
theorem am_A {p : List Int} (hp : p ∈ plm nx) : am v D (putP nx p) ≤ A * D := by
  obtain ⟨a, b, c, d⟩ := hv p hp
  exact Nat.mul_le_mul c (Nat.div_le_self _ _)
theorem meanS_loop {c0 : Nat} (hc : c0 ≤ c) {step : (Q : Type) → (Int × List Int) → ((Int × List Int) → Option Q) → ((List Int) → Option Q) → Option Q}
    (hstep : ∀ i, i < (plm nx).length → ∀ (x : Nat × Nat) (z : List Int) (Q : Type) kn kx, spec_l9Part_p F (toL (v (putP nx (rget (plm nx) i)))) ((wgt (rget (plm nx) i) : Nat) : Int) ((10 * (em nx).length : Nat) : Int) = some (toL (red ((v (putP nx (rget (plm nx) i))).1 * wgt (rget (plm nx) i)) ((v (putP nx (rget (plm nx) i))).2 * (10 * (em nx).length)))) → spec_l9Plus_p F (toL x) (toL (red ((v (putP nx (rget (plm nx) i))).1 * wgt (rget (plm nx) i)) ((v (putP nx (rget (plm nx) i))).2 * (10 * (em nx).length)))) = some z → step Q ((i : Int), toL x) kn kx = kn (IntKind.wrap .i64 ((i : Int) + 1), z))
    (hend : ∀ (x : List Int) (Q : Type) kn kx, step Q (((plm nx).length : Int), x) kn kx = kx x) :
    loopC step F ((0 : Int), toL (red c0 (D * (10 * (em nx).length)))) some = some (toL (red (c0 + asum v D nx) (D * (10 * (em nx).length)))) := by
  have hl := plm_len40 nx
  have hem := em_len nx
  have hB160 : ∀ k, k ≤ B → k * (10 * (em nx).length) ≤ 160 * B := fun k hk => by rw [Nat.mul_comm 160 B]; exact Nat.mul_le_mul hk (by omega)
  have hD160 : D * (10 * (em nx).length) ≤ 160 * D := by rw [Nat.mul_comm 160 D]; exact Nat.mul_le_mul_left D (by omega)
  have hDB : 160 * B ≤ 160 * D * (160 * B) := by
    have : 1 * (160 * B) ≤ 160 * D * (160 * B) := Nat.mul_le_mul_right _ (by omega)
    omega
  have h := loop_fold (step := step) (fun i (s : Nat) => (i, toL (red s (D * (10 * (em nx).length))))) (plm nx).length (fun i s => s + wgt (rget (plm nx) i) * am v D (putP nx (rget (plm nx) i))) (fun s => toL (red s (D * (10 * (em nx).length)))) (fun i s => s ≤ c + 9 * i * (A * D)) (F := F) (by omega) (by omega) (a := c0) (by omega)
    (fun i s hi hI => by
      have hp : rget (plm nx) i ∈ plm nx := rget_mem hi
      obtain ⟨v1, v2, v3, v4⟩ := hv _ hp
      have ham := am_A hF hroom hD hv n1 n2 n3 hp
      have he := am_eq v2
      have h9 := wgt_9 (rget (plm nx) i)
      have hw : wgt (rget (plm nx) i) * am v D (putP nx (rget (plm nx) i)) ≤ 9 * (A * D) := Nat.mul_le_mul h9 ham
      have hstp := fun x z Q kn kx => hstep i hi x z Q kn kx
      generalize am v D (putP nx (rget (plm nx) i)) = a at *
      generalize v (putP nx (rget (plm nx) i)) = u at *
      generalize wgt (rget (plm nx) i) = w at *
      have hnew : s + w * a ≤ c + 9 * (i + 1) * (A * D) := by
        have : 9 * (i + 1) * (A * D) = 9 * i * (A * D) + 9 * (A * D) := by rw [Nat.mul_add, Nat.add_mul]
        omega
      refine ⟨hnew, fun Q kn kx => ?_⟩
      have hE : 0 < 10 * (em nx).length := by omega
      have hs : s ≤ c + 360 * (A * D) := by
        have : 9 * i * (A * D) ≤ 360 * (A * D) := Nat.mul_le_mul_right _ (by omega)
        omega
      generalize 10 * (em nx).length = E at *
      have u2 := hB160 u.2 v4
      have u1 : u.1 * w ≤ 9 * A := by rw [Nat.mul_comm]; exact Nat.mul_le_mul h9 v3
      have hAD : 9 * A ≤ 9 * A * (160 * D) := by
        have : 9 * A * 1 ≤ 9 * A * (160 * D) := Nat.mul_le_mul_left _ (by omega)
        omega
      have hpart := spec_partL (F := F) (v := u) (w := w) (E := E) v1 hE (by omega) (by omega) (by omega)
      have x1 := red_le1 s (D * E)
      have x2 := red_le2 s (D * E)
      have y1 := red_le1 (u.1 * w) (u.2 * E)
      have y2 := red_le2 (u.1 * w) (u.2 * E)
      have hDE : 0 < D * E := Nat.mul_pos hD hE
      have huE : 0 < u.2 * E := Nat.mul_pos v1 hE
      have p1 : (red s (D * E)).1 * (red (u.1 * w) (u.2 * E)).2 ≤ (c + 360 * (A * D)) * (160 * B) := Nat.mul_le_mul (by omega) (by omega)
      have p2 : (red (u.1 * w) (u.2 * E)).1 * (red s (D * E)).2 ≤ 9 * A * (160 * D) := Nat.mul_le_mul (by omega) (by omega)
      have p3 : (red s (D * E)).2 * (red (u.1 * w) (u.2 * E)).2 ≤ 160 * D * (160 * B) := Nat.mul_le_mul (by omega) (by omega)
      have hplus := spec_plusL (F := F) (x := red s (D * E)) (y := red (u.1 * w) (u.2 * E)) (red_pos hDE) (red_pos huE) (by omega) (by omega) (by omega)
      rw [hstp _ _ Q kn kx hpart hplus, red_plus hDE huE]
      congr 3
      refine red_ratio (Nat.mul_pos hDE huE) hDE ?_
      grind) (fun s _ Q kn kx => hend _ Q kn kx)
  have hg : ∀ (l : LL) (s : Nat), l.foldl (fun s p => s + wgt p * am v D (putP nx p)) s = s + l.foldl (fun s p => s + wgt p * am v D (putP nx p)) 0 := by
    intro l
    induction l with
    | nil => intro s; rfl
    | cons p l ih => intro s; rw [List.foldl_cons, List.foldl_cons, ih, ih (0 + _)]; omega
  have e : fld (fun i s => s + wgt (rget (plm nx) i) * am v D (putP nx (rget (plm nx) i))) 0 (plm nx).length c0 = c0 + asum v D nx := by
    rw [fld_rget (plm nx) (fun p (s : Nat) => s + wgt p * am v D (putP nx p)), hg]; rfl
  have h1 := h.1
  rw [e] at h1
  exact h1
theorem meanI_loop {step : (Q : Type) → (Int × List Int) → ((Int × List Int) → Option Q) → ((List Int) → Option Q) → Option Q}
    (hstep : ∀ i, i < (plm nx).length → ∀ (x : Nat × Nat) (z : List Int) (Q : Type) kn kx, impl_plus_p F (toL x) (toL (red (wgt (rget (plm nx) i) * (v (putP nx (rget (plm nx) i))).1) (v (putP nx (rget (plm nx) i))).2)) = some z → step Q ((i : Int), toL x) kn kx = kn (IntKind.wrap .i64 ((i : Int) + 1), z))
    (hend : ∀ (x : List Int) (Q : Type) kn kx, step Q (((plm nx).length : Int), x) kn kx = kx x) :
    loopC step F ((0 : Int), [(0 : Int), (1 : Int)]) some = some (toL (red (asum v D nx) D)) := by
  have hl := plm_len40 nx
  have h := loop_fold (step := step) (fun i (s : Nat) => (i, toL (red s D))) (plm nx).length (fun i s => s + wgt (rget (plm nx) i) * am v D (putP nx (rget (plm nx) i))) (fun s => toL (red s D)) (fun i s => s ≤ 9 * i * (A * D)) (F := F) (by omega) (by omega) (a := 0) (by omega)
    (fun i s hi hI => by
      have hp : rget (plm nx) i ∈ plm nx := rget_mem hi
      obtain ⟨v1, v2, v3, v4⟩ := hv _ hp
      have ham := am_A hF hroom hD hv n1 n2 n3 hp
      have he := am_eq v2
      have h9 := wgt_9 (rget (plm nx) i)
      have hw : wgt (rget (plm nx) i) * am v D (putP nx (rget (plm nx) i)) ≤ 9 * (A * D) := Nat.mul_le_mul h9 ham
      have hstp := fun x z Q kn kx => hstep i hi x z Q kn kx
      generalize am v D (putP nx (rget (plm nx) i)) = a at *
      generalize v (putP nx (rget (plm nx) i)) = u at *
      generalize wgt (rget (plm nx) i) = w at *
      have hnew : s + w * a ≤ 9 * (i + 1) * (A * D) := by
        have : 9 * (i + 1) * (A * D) = 9 * i * (A * D) + 9 * (A * D) := by rw [Nat.mul_add, Nat.add_mul]
        omega
      refine ⟨hnew, fun Q kn kx => ?_⟩
      have hs : s ≤ c + 360 * (A * D) := by
        have : 9 * i * (A * D) ≤ 360 * (A * D) := Nat.mul_le_mul_right _ (by omega)
        omega
      have u1 : w * u.1 ≤ 9 * A := Nat.mul_le_mul h9 v3
      have x1 := red_le1 s D
      have x2 := red_le2 s D
      have y1 := red_le1 (w * u.1) u.2
      have y2 := red_le2 (w * u.1) u.2
      have p1 : (red s D).1 * (red (w * u.1) u.2).2 ≤ (c + 360 * (A * D)) * (160 * B) := Nat.mul_le_mul (by omega) (by omega)
      have p2 : (red (w * u.1) u.2).1 * (red s D).2 ≤ 9 * A * (160 * D) := Nat.mul_le_mul (by omega) (by omega)
      have p3 : (red s D).2 * (red (w * u.1) u.2).2 ≤ 160 * D * (160 * B) := Nat.mul_le_mul (by omega) (by omega)
      have hplus := impl_plusL (F := F) (x := red s D) (y := red (w * u.1) u.2) (red_pos hD) (red_pos v1) (by omega) (by omega) (by omega)
      rw [hstp _ _ Q kn kx hplus, red_plus hD v1]
      congr 3
      refine red_ratio (Nat.mul_pos hD v1) hD ?_
      grind) (fun s _ Q kn kx => hend _ Q kn kx)
  have e : fld (fun i s => s + wgt (rget (plm nx) i) * am v D (putP nx (rget (plm nx) i))) 0 (plm nx).length 0 = asum v D nx := by
    rw [fld_rget (plm nx) (fun p (s : Nat) => s + wgt p * am v D (putP nx p))]; rfl
  have h1 := h.1
  rw [e] at h1
  have e0 : toL (red 0 D) = [(0 : Int), (1 : Int)] := by rw [red_zero hD]; rfl
  have h1 : loopC step F ((0 : Int), toL (red 0 D)) some = _ := h1
  rw [e0] at h1
  exact h1
theorem impl_last : impl_fraction_p F (((red (asum v D nx) D).1 : Nat) : Int) (IntKind.wrap .i64 (IntKind.wrap .i64 ((((red (asum v D nx) D).2 : Nat) : Int) * 10) * (((em nx).length : Nat) : Int))) = some (toL (red (asum v D nx) (D * (10 * (em nx).length)))) := by
  have hem := em_len nx
  have hB : 0 < B := by
    have hp : 0 < (plm nx).length := by rw [plm_len]; omega
    obtain ⟨v1, v2, v3, v4⟩ := hv _ (rget_mem hp)
    omega
  have hle : asum v D nx ≤ A * (D * (10 * (em nx).length)) := asum_le (fun p hp => am_A hF hroom hD hv n1 n2 n3 hp)
  have x2 := red_le2 (asum v D nx) D
  have x1 := red_le1 (asum v D nx) D
  have hd2 := red_pos (n := asum v D nx) hD
  have he := red_eq (asum v D nx) D
  have h160 : 160 * D ≤ 160 * D * (160 * B) := by
    have : 160 * D * 1 ≤ 160 * D * (160 * B) := Nat.mul_le_mul_left _ (by omega)
    omega
  have hA : A * (D * (10 * (em nx).length)) ≤ 360 * (A * D) := by
    have : A * D * (10 * (em nx).length) ≤ A * D * 160 := Nat.mul_le_mul_left _ (by omega)
    rw [← Nat.mul_assoc A D]; omega
  have hA2 : 360 * (A * D) ≤ (c + 360 * (A * D)) * (160 * B) := by
    have : (c + 360 * (A * D)) * 1 ≤ (c + 360 * (A * D)) * (160 * B) := Nat.mul_le_mul_left _ (by omega)
    omega
  generalize red (asum v D nx) D = x at *
  have hm : x.2 * (10 * (em nx).length) ≤ 160 * D := by rw [Nat.mul_comm 160 D]; exact Nat.mul_le_mul x2 (by omega)
  have e : IntKind.wrap .i64 (IntKind.wrap .i64 (((x.2 : Nat) : Int) * 10) * (((em nx).length : Nat) : Int)) = ((x.2 * (10 * (em nx).length) : Nat) : Int) := by
    have e1 : ((x.2 : Nat) : Int) * 10 = ((x.2 * 10 : Nat) : Int) := by rw [Int.natCast_mul]; rfl
    rw [e1, wi' (x.2 * 10) (by omega), ← Int.natCast_mul, Nat.mul_assoc, wi' _ (by omega)]
  rw [e, fracL F _ _ (Nat.mul_pos hd2 (by omega)) (by omega) (by omega) (by omega)]
  congr 2
  refine red_ratio (Nat.mul_pos hd2 (by omega)) (Nat.mul_pos hD (by omega)) ?_
  grind
end
/-- the best of the moves, and where -/
def bestF (V : Nat → Nat × Nat) (ms : List Int) : Nat × Nat := ms.foldl (fun p d => bif lessF p (V d.toNat) then V d.toNat else p) (0, 1)
def bestA (V : Nat → Nat × Nat) (ms : List Int) : Int × (Nat × Nat) := ms.foldl (fun s d => bif decide (s.1 < 0) then (d, V d.toNat) else bif lessF s.2 (V d.toNat) then (d, V d.toNat) else s) (-1, (0, 1))
theorem less_0 (y : Nat × Nat) : lessF (0, 1) y = decide (0 < y.1) := by
  unfold lessF; rw [Nat.zero_mul, Nat.mul_one]
theorem best_both (V : Nat → Nat × Nat) : ∀ (ms : List Int), (∀ d ∈ ms, (0 : Int) ≤ d ∧ ((V d.toNat).1 = 0 → V d.toNat = (0, 1))) → ∀ (s : Int × (Nat × Nat)), (s.1 < 0 → s.2 = (0, 1)) →
    (ms.foldl (fun s d => bif decide (s.1 < 0) then (d, V d.toNat) else bif lessF s.2 (V d.toNat) then (d, V d.toNat) else s) s).2 = ms.foldl (fun p d => bif lessF p (V d.toNat) then V d.toNat else p) s.2
  | [], _, s, _ => rfl
  | d :: ms, h, s, hs => by
    have hd := h d List.mem_cons_self
    have ih := best_both V ms (fun x hx => h x (List.mem_cons_of_mem _ hx))
    rw [List.foldl_cons, List.foldl_cons]
    cases hn : decide (s.1 < 0) with
    | true =>
      simp at hn
      rw [hs hn, less_0, cond_true]
      rw [ih _ (fun hh => absurd hh (by simp only; omega))]
      cases h0 : decide (0 < (V d.toNat).1) with
      | true => rfl
      | false =>
        simp at h0
        rw [cond_false, hd.2 h0]
    | false =>
      rw [cond_false]
      cases hl : lessF s.2 (V d.toNat) with
      | true => rw [cond_true, cond_true, ih _ (fun hh => absurd hh (by simp only; omega))]
      | false => rw [cond_false, cond_false, ih _ hs]
theorem bestA_2 (V : Nat → Nat × Nat) (ms : List Int) (h : ∀ d ∈ ms, (0 : Int) ≤ d ∧ ((V d.toNat).1 = 0 → V d.toNat = (0, 1))) : (bestA V ms).2 = bestF V ms := best_both V ms h (-1, (0, 1)) (fun _ => rfl)
theorem less_trans {a b c : Nat × Nat} (hb : 0 < b.2) (h1 : lessF a b = false) (h2 : lessF a c = true) (hc : 0 < c.2) (ha : 0 < a.2) : lessF c b = false := by
  unfold lessF at *
  simp at *
  have k1 : b.1 * a.2 * c.2 ≤ a.1 * b.2 * c.2 := Nat.mul_le_mul_right _ h1
  have k2 : a.1 * c.2 * b.2 ≤ c.1 * a.2 * b.2 := Nat.mul_le_mul_right _ (by omega)
  refine Nat.le_of_mul_le_mul_right (c := a.2) ?_ ha
  have e1 : b.1 * c.2 * a.2 = b.1 * a.2 * c.2 := by rw [Nat.mul_assoc, Nat.mul_comm c.2, ← Nat.mul_assoc]
  have e2 : a.1 * b.2 * c.2 = a.1 * c.2 * b.2 := by rw [Nat.mul_assoc, Nat.mul_comm b.2, ← Nat.mul_assoc]
  have e3 : c.1 * b.2 * a.2 = c.1 * a.2 * b.2 := by rw [Nat.mul_assoc, Nat.mul_comm b.2, ← Nat.mul_assoc]
  omega
theorem best_first (V : Nat → Nat × Nat) : ∀ (l : List Int), (∀ d ∈ l, (0 : Int) ≤ d ∧ 0 < (V d.toNat).2) → l ≠ [] →
    l.reverse.find? (fun d => V d.toNat == (bestA V l.reverse).2) = some (bestA V l.reverse).1 ∧ (0 : Int) ≤ (bestA V l.reverse).1 ∧ 0 < (bestA V l.reverse).2.2 ∧ ∀ d ∈ l, lessF (bestA V l.reverse).2 (V d.toNat) = false
  | [], _, h => absurd rfl h
  | x :: l, h, _ => by
    have hx := h x List.mem_cons_self
    have hs : bestA V (x :: l).reverse = (bif decide ((bestA V l.reverse).1 < 0) then (x, V x.toNat) else bif lessF (bestA V l.reverse).2 (V x.toNat) then (x, V x.toNat) else bestA V l.reverse) := by
      rw [List.reverse_cons]; unfold bestA; rw [List.foldl_append]; rfl
    have hirr : lessF (V x.toNat) (V x.toNat) = false := by unfold lessF; simp
    rcases List.eq_nil_or_concat l with rfl | _
    · have e : bestA V [x].reverse = (x, V x.toNat) := rfl
      rw [e]
      refine ⟨?_, hx.1, hx.2, fun d hd => ?_⟩
      · show List.find? (fun d => V d.toNat == V x.toNat) [x] = some x
        simp
      · simp at hd; rw [hd]; exact hirr
    · rename_i hc
      have hne : l ≠ [] := by obtain ⟨a, b, rfl⟩ := hc; simp
      obtain ⟨i1, i2, i3, i4⟩ := best_first V l (fun d hd => h d (List.mem_cons_of_mem _ hd)) hne
      have hn : decide ((bestA V l.reverse).1 < 0) = false := decide_eq_false (by omega)
      rw [hs, hn, cond_false]
      cases hl : lessF (bestA V l.reverse).2 (V x.toNat) with
      | true =>
        rw [cond_true]
        refine ⟨?_, hx.1, hx.2, fun d hd => ?_⟩
        · rw [List.reverse_cons, List.find?_append]
          have hnone : l.reverse.find? (fun d => V d.toNat == V x.toNat) = none := by
            rw [List.find?_eq_none]
            intro d hd he
            have he := eq_of_beq he
            have := i4 d (List.mem_reverse.1 hd)
            rw [he, hl] at this
            cases this
          rw [hnone]
          simp
        · rcases List.mem_cons.1 hd with rfl | hd
          · exact hirr
          · exact less_trans (h d (List.mem_cons_of_mem _ hd)).2 (i4 d hd) hl hx.2 i3
      | false =>
        rw [cond_false]
        refine ⟨?_, i2, i3, fun d hd => ?_⟩
        · rw [List.reverse_cons, List.find?_append, i1]; rfl
        · rcases List.mem_cons.1 hd with rfl | hd
          · exact hl
          · exact i4 d hd
theorem best_find (V : Nat → Nat × Nat) (ms : List Int) (h : ∀ d ∈ ms, (0 : Int) ≤ d ∧ 0 < (V d.toNat).2 ∧ ((V d.toNat).1 = 0 → V d.toNat = (0, 1))) (hne : ms ≠ []) : ms.find? (fun d => V d.toNat == bestF V ms) = some (bestA V ms).1 := by
  have := (best_first V ms.reverse (fun d hd => ⟨(h d (List.mem_reverse.1 hd)).1, (h d (List.mem_reverse.1 hd)).2.1⟩) (by simpa using hne)).1
  rw [List.reverse_reverse] at this
  rw [← bestA_2 V ms fun d hd => ⟨(h d hd).1, (h d hd).2.2⟩]
  exact this
theorem fnd_find (l : List Int) (q : Int → Bool) : fnd (fun i => q (iget l i)) (fun i => (true, iget l i)) (false, default) 0 l.length = match l.find? q with | some x => (true, x) | none => (false, default) := by
  have : ∀ (m i : Nat), i + m = l.length → fnd (fun i => q (iget l i)) (fun i => (true, iget l i)) (false, default) i m = match (l.drop i).find? q with | some x => (true, x) | none => (false, default) := by
    intro m
    induction m with
    | zero => intro i h; rw [List.drop_eq_nil_of_le (by omega)]; rfl
    | succ m ih =>
      intro i h
      have hi : i < l.length := by omega
      have hg : iget l i = l[i] := by rw [igetL, List.getElem?_eq_getElem hi]; rfl
      simp only [fnd]
      rw [ih (i + 1) (by omega), List.drop_eq_getElem_cons hi, List.find?_cons, hg]
      cases q l[i] <;> rfl
  simpa using this l.length 0 (by omega)
end Go.Lv.P
