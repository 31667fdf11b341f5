/-
slices.SortFunc at elements of several cells, by the shelf's contract: what it does to a slice's block.
-/
import Derived.Test.YtabfliifleonaakGreatLv3
import Derived.Test.YtabfliifleonaakGreatMvOrd
import Derived.Shelf.SlSortCmp.NoneTotal
namespace Go.Lv
open Go.RowKit Go.Proofs Go.Shelf Go.Sort
set_option linter.unusedVariables false
set_option linter.unusedSimpArgs false
set_option linter.unusedSectionVars false
def sortEnt (g : FuncId) (m : Nat) (e : TypeId) (F : Nat) : Ent := ⟨[true], .loud, fun args mem => match args, mem with
  | [.sl 0 0 n, .fn f [] []], [.vec e' (.rr m' xs)] => bif Nat.beq f g && Nat.beq e' e && Nat.beq m' m then some (Nat.ble n (List.length xs) && (Nat.blt 1000 F && Nat.ble (List.length xs) 1000000000), ⟨.tup [], [.vec e (.rr m (sortP n xs))], []⟩) else none
  | _, _ => none⟩
abbrev RowT (m : Nat) := { x : List Int // x.length = m }
instance (m : Nat) : Inhabited (RowT m) := ⟨⟨List.replicate m 0, by simp⟩⟩
def encT (m : Nat) (x : RowT m) : List Value := iv .i64 x.1
def cfT (m : Nat) (x y : RowT m) : Int := cmpL x.1 y.1
theorem u235 (m : Nat) (x y : RowT m) : ltOf (cfT m) x y = ltL x.1 y.1 := by
  unfold ltOf cfT cmpL
  cases ltL x.1 y.1 with
  | true => rfl
  | false =>
    cases x.1 == y.1 <;> rfl
theorem swo_cfT (m : Nat) : SWO (ltOf (cfT m)) where
  irrefl x := by rw [u235]; exact u200 _
  trans x y z h1 h2 := by rw [u235] at *; exact u095 h1 h2
  ntrans x y z h1 h2 := by
    rw [u235] at *
    cases h : ltL x.1 z.1 with
    | false => rfl
    | true =>
      have hl : x.1.length = y.1.length := by rw [x.2, y.2]
      by_cases hxy : x.1 = y.1
      · rw [hxy] at h; rw [h] at h2; cases h2
      · have h3 := u199 hl h1 hxy
        have h4 := u095 h3 h
        rw [h4] at h2; cases h2
theorem tot_cfT (m : Nat) (x y : RowT m) (h1 : ltOf (cfT m) x y = false) (h2 : ltOf (cfT m) y x = false) : x = y := by
  rw [u235] at *
  by_cases hxy : x.1 = y.1
  · exact Subtype.ext hxy
  · have h3 := u199 (by rw [x.2, y.2]) h1 hxy
    rw [h3] at h2; cases h2
theorem flat_get {k : Nat} : ∀ (l : List (List Value)) (t : Nat), (∀ x ∈ l, x.length = k) → t < l.length * k → l.flatten[t]? = some ((l[t / k]!)[t % k]!)
  | [], t, _, h => by simp at h
  | x :: l, t, hk, h => by
    have hx := hk x List.mem_cons_self
    have k0 : 0 < k := by
      rcases Nat.eq_zero_or_pos k with h0 | h0
      · subst h0; simp at h
      · exact h0
    rw [List.flatten_cons]
    by_cases ht : t < k
    · rw [List.getElem?_append_left (by omega), Nat.div_eq_of_lt ht, Nat.mod_eq_of_lt ht]
      have : t < x.length := by omega
      simp [this]
    · rw [List.getElem?_append_right (by omega), hx]
      rw [List.length_cons, Nat.succ_mul] at h
      rw [flat_get l (t - k) (fun y hy => hk y (List.mem_cons_of_mem _ hy)) (by omega)]
      have e1 : t / k = (t - k) / k + 1 := by rw [← Nat.add_div_right _ k0]; congr 1; omega
      have e2 : t % k = (t - k) % k := by rw [Nat.mod_eq_sub_mod (by omega)]
      rw [e1, e2]
      simp
theorem flatK_list (m : Nat) (d : Array (RowT m)) : (flatK (encT m) m d).toList = iv .i64 (d.toList.map (·.1)).flatten := by
  have hl : ((d.toList.map (encT m))).flatten = iv .i64 (d.toList.map (·.1)).flatten := by
    unfold iv encT iv
    rw [List.map_flatten, List.map_map]; rfl
  rw [← hl]
  apply List.ext_getElem?
  intro t
  have hk : ∀ x ∈ d.toList.map (encT m), x.length = m := by
    intro x hx
    obtain ⟨y, _, rfl⟩ := List.mem_map.1 hx
    simp [encT, iv, y.2]
  have hlen : ((d.toList.map (encT m))).flatten.length = d.size * m := by
    rw [List.length_flatten]
    have : (d.toList.map (encT m)).map List.length = List.replicate d.size m := by
      rw [List.map_map]
      apply List.ext_getElem
      · simp
      · intro i h1 h2
        simp only [List.getElem_map, Function.comp, encT, iv, List.length_map, List.getElem_replicate]
        exact (d.toList[i]'(by simpa using h1)).2
    rw [this]; simp
  by_cases ht : t < d.size * m
  · rw [flat_get _ t hk (by simpa using ht)]
    have m0 : 0 < m := by
      rcases Nat.eq_zero_or_pos m with h0 | h0
      · subst h0; simp at ht
      · exact h0
    have hi : t / m < d.size := by rw [Nat.div_lt_iff_lt_mul m0]; exact ht
    simp [flatK, ht, hi]
  · rw [List.getElem?_eq_none (by simp [flatK]; omega), List.getElem?_eq_none (by rw [hlen]; omega)]
theorem cmpLays_of {P : Program} {g : FuncId} {m : Nat} {entc : Ent} (hc : Meets P g entc) (hq : entc.loud = .quiet)
    (hv : ∀ x y : List Int, x.length = m → y.length = m → entc.g [.ints m x, .ints m y] [] = some (true, ⟨.int .i64 (cmpL x y), [], []⟩)) (blk off size : Nat) (w : World) :
    CmpLays P g #[] (encT m) m (cfT m) blk off size w := by
  intro q os dk _ x y
  generalize sortWorldK (encT m) m w blk off q dk os = W
  letI : Fr := Fr.of fun _ => False
  have hwr : WR W [] [] := ⟨rfl, fun h rl hh => by simp at hh, fun h h' rl rl' r hh => by simp at hh, fun r hr => by
    obtain ⟨h, rl, hh, _⟩ := hr
    simp at hh, fun r hr => hr.elim⟩
  have h := hc (Fr.of fun _ => False) W [] [] [.ints m x.1, .ints m y.1] [.agg (iv .i64 x.1).toArray, .agg (iv .i64 y.1).toArray] hwr (.cons ⟨x.2, rfl⟩ (.cons ⟨y.2, rfl⟩ .nil)) _ (hv x.1 y.1 x.2 y.2)
  refine h.mono fun e w' ⟨r, ρ', he, hr, _, hs⟩ => ?_
  have hr : r = .int .i64 (cmpL x.1 y.1) := hr
  refine ⟨by rw [he, hr]; rfl, w'.drawn - W.drawn, w'.heap.extract W.heap.size w'.heap.size, ?_⟩
  have hd := hs.drawn
  have h1 := hs.os
  have h2 := hs.tape
  have h3 := hs.output
  have h4 := hs.size
  have h5 : ∀ r, r < W.heap.size → w'.heap[r]? = W.heap[r]? := fun r hr => (hs.old r hr fun ⟨h, rl, hh, _⟩ => by simp at hh).1
  have hheap : w'.heap = W.heap ++ w'.heap.extract W.heap.size w'.heap.size := by
    apply Array.ext_getElem?
    intro i
    rw [Array.getElem?_append]
    by_cases hi : i < W.heap.size
    · rw [if_pos hi, h5 i hi]
    · rw [if_neg hi, Array.getElem?_extract]
      by_cases hi2 : i < w'.heap.size
      · rw [if_pos (by omega), show W.heap.size + (i - W.heap.size) = i by omega]
      · rw [if_neg (by omega), Array.getElem?_eq_none (by omega)]
  unfold grow World.drewN
  obtain ⟨heap, tape, drawn, os', output⟩ := w'
  simp only at *
  subst h1 h2 h3
  simp only [World.mk.injEq, and_true, true_and]
  exact ⟨hheap, by omega⟩
theorem u284 {m : Nat} : ∀ (xs : List (List Int)), (∀ x ∈ xs, x.length = m) → ∃ l : List (RowT m), l.map (·.1) = xs
  | [], _ => ⟨[], rfl⟩
  | x :: r, h => by
    obtain ⟨l, rfl⟩ := u284 r fun y hy => h y (List.mem_cons_of_mem _ hy)
    exact ⟨⟨x, h x List.mem_cons_self⟩ :: l, rfl⟩
theorem heap_putRowK {m : Nat} (w : World) (r : Nat) (d : Array (RowT m)) {cur : Array Value} {e : TypeId} (hh : w.heap[r]? = some (.cells cur e (0, 0))) (hs : d.size * m ≤ cur.size) :
    ∃ cur' : Array Value, (putRowK (encT m) m w r 0 d).heap[r]? = some (.cells cur' e (0, 0)) ∧ cur'.size = cur.size ∧ cur'.toList.take (d.size * m) = (flatK (encT m) m d).toList ∧ cur'.toList.drop (d.size * m) = cur.toList.drop (d.size * m) := by
  refine ⟨putCells id 0 (flatK (encT m) m d) cur, ?_, by simp [putCells], ?_, ?_⟩
  · simp only [putRowK, putRow, mapBlock, Array.getElem?_modify, if_true, hh, Option.map_some, onCells]
  · apply List.ext_getElem?
    intro t
    rw [List.getElem?_take]
    by_cases ht : t < d.size * m
    · rw [if_pos ht]
      have h1 : t < cur.size := by omega
      simp [putCells, ht, h1, flatK]
    · rw [if_neg ht, List.getElem?_eq_none (by simp; omega)]
  · apply List.ext_getElem?
    intro t
    rw [List.getElem?_drop, List.getElem?_drop]
    have h2 : ¬ (d.size * m + t < d.size * m) := by omega
    simp [putCells, h2, flatK]
theorem u183 {m : Nat} (w : World) (r : Nat) (d : Array (RowT m)) {q : Nat} (hq : q ≠ r) : (putRowK (encT m) m w r 0 d).heap[q]? = w.heap[q]? := by
  simp only [putRowK, putRow, mapBlock, Array.getElem?_modify, if_neg (Ne.symm hq)]
theorem u278 {P : Program} {ρr : Ren} (L : SlLaysF0.n6 P ρr) (m : Nat) (e : TypeId) (F : Nat) (aE : ∀ w, (isAgg (ρr.t 24)).run P w = .ok true w) (zE : ∀ w, (Go.sizeOf (ρr.t 24)).run P w = .ok m w)
    (g : FuncId) (eg : ∀ args w, (callFunc g args).run P w = .ok (.enter g args) w) (entc : Ent) (hc : Meets P g entc) (hq : entc.loud = .quiet)
    (hv : 1000 < F → ∀ x y : List Int, x.length = m → y.length = m → entc.g [.ints m x, .ints m y] [] = some (true, ⟨.int .i64 (cmpL x y), [], []⟩)) : Meets P (ρr.f 6) (sortEnt g m e F) := by
  intro fr w ρ mem args reals hw ha ret hg
  simp only [sortEnt] at hg
  split at hg
  case h_2 => cases hg
  rename_i n f e' m' xs
  cases hb : Nat.beq f g && Nat.beq e' e && Nat.beq m' m with
  | false => rw [hb] at hg; cases hg
  | true =>
    rw [hb, cond_true] at hg
    simp only [Bool.and_eq_true, Nat.beq_eq] at hb
    obtain ⟨⟨rfl, rfl⟩, rfl⟩ := hb
    simp only [Option.some.injEq, Prod.mk.injEq, Bool.and_eq_true, Nat.ble_eq] at hg
    obtain ⟨⟨hn, hF, hbig⟩, rfl⟩ := hg
    have hF : 1000 < F := Nat.blt_eq.mp hF
    cases ha with
    | cons h1 ha =>
      cases ha with
      | cons h2 ha =>
        cases ha
        obtain ⟨e2, c2, a, cap, hm, hρ, hle, hr⟩ := h1
        obtain ⟨fs, cs, rfl, hfs, hcs⟩ := h2
        cases hfs; cases hcs
        have hm : Blk.vec e' (.rr m' xs) = .vec e2 c2 := hm
        cases hm
        obtain ⟨_, rfl⟩ : (0 : Nat) = 0 ∧ _ = Value.slice a n cap := by
          rcases hr with h | ⟨h, _⟩
          · exact h
          · exact absurd rfl h
        have hblk := hw.blk 0 _ hρ
        obtain ⟨a', cap', heq, hcap, hcells⟩ := hblk
        cases heq
        by_cases h0 : n = 0
        · subst h0
          refine (AnyF.slices_SortFunc_none L a cap (.func (.func f) #[] #[]) w).mono fun e w' ⟨he, hw'⟩ => ?_
          subst hw'
          have hs0 : sortP 0 xs = xs := by simp [sortP, sortL]
          rw [hs0]
          exact ⟨_, ρ, he, ⟨[], rfl, .nil⟩, hw, Step.refl _ _ _ _⟩
        · have hcap : xs.length ≤ cap := hcap
          rcases hcells with ⟨hc0, _⟩ | ⟨r0, cur, hcp, rfl, hh, hmax, hsz, hrows, hcr⟩
          · omega
          have hrows : rowsOK m' xs := hrows
          have hcr : cur.toList.take (xs.length * m') = iv .i64 xs.flatten := hcr
          have hsz : cur.size = cap * m' := hsz
          have hcr0 : cur.toList.take (n * m') = iv .i64 (xs.take n).flatten := by
            have h1 := u149 m' xs hrows.2 0 n
            have h1 : (xs.take n).flatten = (xs.flatten.drop (0 * m')).take (n * m') := h1
            rw [Nat.zero_mul, List.drop_zero] at h1
            have h2 : n * m' ≤ xs.length * m' := Nat.mul_le_mul_right _ hn
            rw [h1, iv, List.map_take, ← iv, ← hcr, List.take_take, Nat.min_eq_left h2]
          obtain ⟨l, hl⟩ := u284 (xs.take n) fun x hx => hrows.2 x (List.mem_of_mem_take hx)
          have hln : l.length = n := by
            have := congrArg List.length hl
            rw [List.length_map, List.length_take, Nat.min_eq_left hn] at this
            exact this
          have hlt : r0 < w.heap.size := (Array.getElem?_eq_some_iff.1 hh).1
          have hmul : n * m' ≤ cur.size := by rw [hsz]; exact Nat.mul_le_mul_right _ (Nat.le_trans hn hcap)
          have hfl : (flatK (encT m') m' l.toArray).toList = iv .i64 (xs.take n).flatten := by rw [flatK_list, List.toList_toArray, hl]
          have hH : HoldsK (encT m') m' w r0 0 l.toArray := by
            intro j hj
            have hj2 : j < n * m' := by simpa [hln] using hj
            have h1 : cur[j]? = some ((flatK (encT m') m' l.toArray)[j]!) := by
              have e1 : (cur.toList.take (n * m'))[j]? = cur[j]? := by
                rw [List.getElem?_take, if_pos hj2, Array.getElem?_toList]
              rw [← e1, hcr0, ← hfl, Array.getElem?_toList]
              have hj3 : j < (flatK (encT m') m' l.toArray).size := hj
              rw [Array.getElem?_eq_getElem hj3, getElem!_pos _ j hj3]
            refine ⟨?_, ?_⟩
            · simp only [World.cell?, hh, Nat.zero_add, Option.isSome_none, Bool.false_eq_true, if_false]
              exact h1
            · simp [World.frozen?, hh]
          have hcon := AnyQ.slices_SortFunc_total L m' aE zE (encT m') (fun x => by simp [encT, iv, x.2]) (fun x v hv => by
            simp only [encT, iv, List.mem_map] at hv
            obtain ⟨y, _, rfl⟩ := hv
            rfl) (cfT m') (swo_cfT m') f #[] r0 0 cap l.toArray w eg (cmpLays_of hc hq (hv hF) _ _ _ _) hH hlt (by
              rw [List.size_toArray, hln]
              exact Nat.lt_of_le_of_lt (Nat.le_trans hn hbig) (by decide)) (tot_cfT m')
          have hsz2 : l.toArray.size = n := by simp [hln]
          rw [hsz2] at hcon
          refine hcon.mono fun e w' ⟨he, q, os, hw'⟩ => ?_
          have hsrt : ((l.mergeSort fun x y => !(ltOf (cfT m')) y x).map (·.1)) = sortL (xs.take n) := by
            rw [sortL, ← hl]
            exact List.map_mergeSort fun x _ y _ => by rw [u235]
          generalize hd : l.mergeSort (fun x y => !(ltOf (cfT m')) y x) = d at hsrt
          have hw' : w' = sortWorldK (encT m') m' w r0 0 q d.toArray os := by rw [hw', ← hd]
          have hdl : d.length = n := by rw [← hd, List.length_mergeSort, hln]
          have hsl : (sortP n xs).length = xs.length := by rw [sortP, ← hsrt]; simp [hdl]; omega
          obtain ⟨cur', k1, k2, k3, k4⟩ := heap_putRowK (m := m') (Sort.ahead w q) r0 d.toArray (show (Sort.ahead w q).heap[r0]? = _ from hh) (by simpa [hdl] using hmul)
          have ho := fun p (hp : p ≠ r0) => u183 (m := m') (Sort.ahead w q) r0 d.toArray hp
          have hps : (putRowK (encT m') m' (Sort.ahead w q) r0 0 d.toArray).heap.size = w.heap.size := by simp [putRowK]
          have hold : ∀ p, p < w.heap.size → w'.heap[p]? = (putRowK (encT m') m' (Sort.ahead w q) r0 0 d.toArray).heap[p]? := fun p hp => by
            rw [hw']
            exact heap_grow_old _ os (by rw [hps]; exact hp)
          have hlive : (mget [Blk.vec e' (.rr m' xs)] 0).live = true := rfl
          have hchg := chg_ok (b' := .vec e' (.rr m' (sortP n xs))) (w' := w') hw hρ hlive (by rw [hw']; simp [sortWorldK, putRowK]) (by rw [hw']; rfl) (by rw [hw']; rfl) (by rw [hw']; rfl)
            (fun p hp hne => by
              rw [hold p hp]
              refine ho p fun hpr => hne ?_
              subst hpr
              simp [Rl.blk, show ¬ cap = 0 by omega])
            ⟨_, rfl, rfl, by show xs.length ≤ (sortP n xs).length; omega⟩
            (fun _ => ⟨_, _, rfl, by show (sortP n xs).length ≤ cap; omega, .inr ⟨r0, cur', hcp, rfl, by rw [hold r0 hlt]; exact k1, hmax, by rw [k2]; exact hsz, ⟨hrows.1, fun x hx => hrows.2 x (by
              rw [sortP, List.mem_append] at hx
              rcases hx with hx | hx
              · exact List.mem_of_mem_take ((List.mergeSort_perm _ _).mem_iff.1 hx)
              · exact List.mem_of_mem_drop hx)⟩, by
              show cur'.toList.take ((sortP n xs).length * m') = iv .i64 (sortP n xs).flatten
              rw [List.size_toArray, hdl] at k3 k4
              have e1 : xs.length * m' = n * m' + (xs.length - n) * m' := by rw [← Nat.add_mul]; congr 1; omega
              have e2 : (cur.toList.drop (n * m')).take ((xs.length - n) * m') = iv .i64 (xs.drop n).flatten := by
                have h1 := u149 m' xs hrows.2 n (xs.length - n)
                have h1 : ((xs.drop n).take (xs.length - n)).flatten = (xs.flatten.drop (n * m')).take ((xs.length - n) * m') := h1
                rw [List.take_of_length_le (by simp)] at h1
                rw [h1, iv, List.map_take, List.map_drop, ← iv, ← hcr, List.drop_take, e1, Nat.add_sub_cancel_left, List.take_take, Nat.min_self]
              rw [hsl, e1, List.take_add, k3, k4, e2, sortP, ← hsrt, flatK_list, List.flatten_append, iv, iv, iv, List.map_append]⟩⟩)
            (by rw [hw']; exact Nat.le_add_right _ _)
          exact ⟨_, ρ, he, ⟨[], rfl, .nil⟩, hchg.2, hchg.1.weak fun _ h => h.elim⟩
end Go.Lv
