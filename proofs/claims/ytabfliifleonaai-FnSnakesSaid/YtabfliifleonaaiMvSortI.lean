/-
slices.Sort at whole numbers, by the shelf's contract: what it does to a slice's block.
-/
import Derived.Test.YtabfliifleonaaiLv3
import Derived.Test.YtabfliifleonaaiMvOrd
import Derived.Shelf.SortM.Plain
import Derived.Shelf.SortM.SortNone
namespace Go.Lv
open Go.RowKit Go.Proofs Go.Shelf Go.Sort
set_option linter.unusedVariables false
set_option linter.unusedSimpArgs false
set_option linter.unusedSectionVars false

def sortIEnt (e : TypeId) (F : Nat) : Ent := ⟨[true], .loud, fun args mem => match args, mem with
  | [.sl 0 0 n], [.vec e' (.ri .i64 xs)] => bif Nat.beq e' e then some (Nat.beq n (List.length xs) && Nat.ble (List.length xs) 1000000000, ⟨.tup [], [.vec e (.ri .i64 (sortI xs))], []⟩) else none
  | _, _ => none⟩

theorem heap_putRow1 (w : World) (r : Nat) (zs : List Int) {cur : Array Value} {e : TypeId} (hh : w.heap[r]? = some (.cells cur e (0, 0))) (hs : zs.length ≤ cur.size) :
    ∃ cur' : Array Value, (putRow (Value.int .i64) w r 0 zs.toArray).heap[r]? = some (.cells cur' e (0, 0)) ∧ cur'.size = cur.size ∧ cur'.toList.take zs.length = iv .i64 zs := by
  refine ⟨putCells (Value.int .i64) 0 zs.toArray cur, ?_, by simp [putCells], ?_⟩
  · simp only [putRow, mapBlock, Array.getElem?_modify, if_true, hh, Option.map_some, onCells]
  · apply List.ext_getElem?
    intro t
    rw [List.getElem?_take]
    by_cases ht : t < zs.length
    · rw [if_pos ht]
      have h1 : t < cur.size := by omega
      simp [putCells, ht, h1, iv]
    · rw [if_neg ht, List.getElem?_eq_none (by simp [iv]; omega)]
theorem heap_putRow1_other (w : World) (r : Nat) (zs : List Int) {q : Nat} (hq : q ≠ r) : (putRow (Value.int .i64) w r 0 zs.toArray).heap[q]? = w.heap[q]? := by
  simp only [putRow, mapBlock, Array.getElem?_modify, if_neg (Ne.symm hq)]

theorem meets_sortI {P : Program} {ρr : Ren} (L : SlLaysM.n5 P ρr) (e : TypeId) (F : Nat) : Meets P (ρr.f 5) (sortIEnt e F) := by
  intro fr w ρ mem args reals hw ha ret hg
  simp only [sortIEnt] at hg
  split at hg
  case h_2 => cases hg
  rename_i n e' xs
  cases hb : Nat.beq e' e with
  | false => rw [hb] at hg; cases hg
  | true =>
    rw [hb, cond_true] at hg
    simp only [Nat.beq_eq] at hb
    subst hb
    simp only [Option.some.injEq, Prod.mk.injEq, Bool.and_eq_true, Nat.beq_eq] at hg
    obtain ⟨⟨hn, hbig⟩, rfl⟩ := hg
    have hbig : xs.length ≤ 1000000000 := Nat.ble_eq.mp hbig
    subst hn
    cases ha with
    | cons h1 ha =>
        cases ha
        obtain ⟨e2, c2, a, cap, hm, hρ, hle, hr⟩ := h1
        have hm : Blk.vec e' (.ri .i64 xs) = .vec e2 c2 := hm
        cases hm
        obtain ⟨_, rfl⟩ : (0 : Nat) = 0 ∧ _ = Value.slice a xs.length cap := by
          rcases hr with h | ⟨h, _⟩
          · exact h
          · exact absurd rfl h
        have hblk := hw.blk 0 _ hρ
        obtain ⟨a', cap', heq, hcap, hcells⟩ := hblk
        cases heq
        by_cases h0 : xs.length = 0
        · have hx : xs = [] := List.eq_nil_of_length_eq_zero h0
          subst hx
          refine (AnyM.slices_Sort_int_none L a cap w).mono fun e w' ⟨he, hw'⟩ => ?_
          subst hw'
          have hs0 : sortI [] = [] := by simp [sortI]
          rw [hs0]
          exact ⟨_, ρ, he, ⟨[], rfl, .nil⟩, hw, Step.refl _ _ _ _⟩
        · have hcap : xs.length ≤ cap := hcap
          rcases hcells with ⟨hc0, _⟩ | ⟨r0, cur, hcp, rfl, hh, hmax, hsz, hcr⟩
          · omega
          have hcr : cur.toList.take (xs.length * 1) = iv .i64 xs := hcr
          rw [Nat.mul_one] at hcr
          have hsz : cur.size = cap * 1 := hsz
          have hlt : r0 < w.heap.size := (Array.getElem?_eq_some_iff.1 hh).1
          have hH : Holds (Value.int .i64) w r0 0 xs.toArray := by
            intro j hj
            have hj2 : j < xs.length := by simpa using hj
            have h1 : cur[j]? = some (Value.int .i64 (xs.toArray[j]!)) := by
              have e1 : (cur.toList.take xs.length)[j]? = cur[j]? := by
                rw [List.getElem?_take, if_pos hj2, Array.getElem?_toList]
              rw [← e1, hcr]
              simp [iv, hj2]
            refine ⟨?_, ?_⟩
            · simp only [World.cell?, hh, Nat.zero_add, Option.isSome_none, Bool.false_eq_true, if_false]
              exact h1
            · simp [World.frozen?, hh]
          have hcon := AnyM.slices_Sort_int L r0 0 cap xs w hH hlt (Nat.lt_of_le_of_lt hbig (by decide))
          refine hcon.mono fun e w' ⟨he, q, os, hw'⟩ => ?_
          have hw' : w' = grow (putRow (Value.int .i64) (Sort.ahead w q) r0 0 (sortI xs).toArray) os := hw'
          have hsl : (sortI xs).length = xs.length := List.length_mergeSort _
          obtain ⟨cur', k1, k2, k3⟩ := heap_putRow1 (Sort.ahead w q) r0 (sortI xs) (show (Sort.ahead w q).heap[r0]? = _ from hh) (by omega)
          have ho := fun p (hp : p ≠ r0) => heap_putRow1_other (Sort.ahead w q) r0 (sortI xs) hp
          have hps : (putRow (Value.int .i64) (Sort.ahead w q) r0 0 (sortI xs).toArray).heap.size = w.heap.size := by simp
          have hold : ∀ p, p < w.heap.size → w'.heap[p]? = (putRow (Value.int .i64) (Sort.ahead w q) r0 0 (sortI xs).toArray).heap[p]? := fun p hp => by
            rw [hw']
            exact heap_grow_old _ os (by rw [hps]; exact hp)
          have hlive : (mget [Blk.vec e' (.ri .i64 xs)] 0).live = true := rfl
          have hchg := chg_ok (b' := .vec e' (.ri .i64 (sortI xs))) (w' := w') hw hρ hlive (by rw [hw']; simp) (by rw [hw']; rfl) (by rw [hw']; rfl) (by rw [hw']; rfl)
            (fun p hp hne => by
              rw [hold p hp]
              refine ho p fun hpr => hne ?_
              subst hpr
              simp [Rl.blk, show ¬ cap = 0 by omega])
            ⟨_, rfl, rfl, by show xs.length ≤ (sortI xs).length; omega⟩
            (fun _ => ⟨_, _, rfl, by show (sortI xs).length ≤ cap; omega, .inr ⟨r0, cur', hcp, rfl, by rw [hold r0 hlt]; exact k1, hmax, by rw [k2]; exact hsz, by
              show cur'.toList.take ((sortI xs).length * 1) = iv .i64 (sortI xs)
              rw [Nat.mul_one]; exact k3⟩⟩)
            (by rw [hw']; exact Nat.le_add_right _ _)
          exact ⟨_, ρ, he, ⟨[], rfl, .nil⟩, hchg.2, hchg.1.weak fun _ h => h.elim⟩
end Go.Lv
