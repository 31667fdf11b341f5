/-
Regions that are drawn, sound: the whole.
-/
import Derived.Test.YtdcimcciokgdaaaLvT
namespace Go.Lv
open Go.RowKit
set_option linter.unusedVariables false
set_option linter.unusedSimpArgs false
set_option linter.unusedSectionVars false
variable [fr : Fr]

/-! ### whom an operation waits for -/
theorem mem_uni {a b : List Nat} {x : Nat} : x ∈ uni a b ↔ x ∈ a ∨ x ∈ b := by
  induction a generalizing b with
  | nil => simp [uni]
  | cons c r ih =>
    simp only [uni]
    cases hm : memb c b with
    | true =>
      have := memb_iff.1 hm
      simp only [cond_true, ih, List.mem_cons]
      constructor
      · rintro (h | h)
        · exact .inl (.inr h)
        · exact .inr h
      · rintro ((rfl | h) | h)
        · exact .inr this
        · exact .inl h
        · exact .inr h
    | false =>
      simp only [cond_false, ih, List.mem_cons]
      constructor
      · rintro (h | rfl | h)
        · exact .inl (.inr h)
        · exact .inl (.inl rfl)
        · exact .inr h
      · rintro ((rfl | h) | h)
        · exact .inr (.inl rfl)
        · exact .inl h
        · exact .inr (.inr h)

theorem mem_ancOf {acc : List (List Nat)} : ∀ {es : List Edge} {x : Nat}, x ∈ ancOf acc es → ∃ e ∈ es, Region.binds .any e = true ∧ (e.on = x ∨ x ∈ lget acc e.on)
  | [], x, h => by cases h
  | e :: r, x, h => by
    simp only [ancOf] at h
    have more : x ∈ ancOf acc r → ∃ e' ∈ e :: r, Region.binds .any e' = true ∧ (e'.on = x ∨ x ∈ lget acc e'.on) := fun h => by
      obtain ⟨e', h1, h2⟩ := mem_ancOf h
      exact ⟨e', by simp [h1], h2⟩
    cases hb : Region.binds .any e with
    | true =>
      rw [hb] at h
      rcases mem_uni.1 h with h | h
      · refine ⟨e, by simp, hb, ?_⟩
        rcases List.mem_cons.1 h with h | h
        · exact .inl h.symm
        · exact .inr h
      · exact more h
    | false => rw [hb] at h; exact more h

theorem lget_app (acc : List (List Nat)) (z : List Nat) (i : Nat) : lget (acc ++ [z]) i = if i < acc.length then lget acc i else if i = acc.length then z else [] := by
  induction acc generalizing i with
  | nil => cases i <;> simp [lget]
  | cons a r ih => cases i <;> simp [lget, ih]
theorem lget_ge (acc : List (List Nat)) (i : Nat) (h : acc.length ≤ i) : lget acc i = [] := by
  induction acc generalizing i with
  | nil => rfl
  | cons a r ih => cases i with
    | zero => simp at h
    | succ i => exact ih i (by simpa using h)

def AncOK (an : List (List Nat)) (L : List Oper) : Prop := an.length = L.length ∧ ∀ (i : Nat) (o : Oper), L[i]? = some o → ∀ x ∈ lget an i, ∃ e ∈ o.after.toList, Region.binds .any e = true ∧ (e.on = x ∨ x ∈ lget an e.on)

theorem ancs_ok : ∀ (l pre : List Oper) (acc : List (List Nat)), AncOK acc pre → AncOK (ancs l acc) (pre ++ l)
  | [], pre, acc, h => by simpa [ancs] using h
  | o :: l, pre, acc, ⟨hl, h⟩ => by
    simp only [ancs]
    have := ancs_ok l (pre ++ [o]) (acc ++ [ancOf acc o.after.toList]) ⟨by simp [hl], fun i p hp x hx => by
      have up : ∀ {y}, x ∈ lget acc y → x ∈ lget (acc ++ [ancOf acc o.after.toList]) y := fun {y} hy => by
        rw [lget_app]
        by_cases hyl : y < acc.length
        · rw [if_pos hyl]; exact hy
        · rw [lget_ge acc y (by omega)] at hy; cases hy
      rw [lget_app] at hx
      by_cases hi : i < acc.length
      · rw [if_pos hi] at hx
        rw [List.getElem?_append_left (by omega)] at hp
        obtain ⟨e, h1, h2, h3⟩ := h i p hp x hx
        exact ⟨e, h1, h2, h3.imp id up⟩
      · rw [if_neg hi] at hx
        by_cases hi2 : i = acc.length
        · rw [if_pos hi2] at hx
          rw [hi2, hl, List.getElem?_append_right (Nat.le_refl _)] at hp
          simp only [Nat.sub_self, List.getElem?_cons_zero, Option.some.injEq] at hp
          subst hp
          obtain ⟨e, h1, h2, h3⟩ := mem_ancOf hx
          exact ⟨e, h1, h2, h3.imp id up⟩
        · rw [if_neg hi2] at hx; cases hx⟩
    rwa [List.append_assoc] at this

section
variable {ops : Array Oper} {an : List (List Nat)}

theorem anc_lt (hA : AncOK an ops.toList) (hE : ∀ (i : Nat) (o : Oper), ops[i]? = some o → ∀ e ∈ o.after.toList, Region.binds .any e = true → e.on < i) : ∀ (i x : Nat), x ∈ lget an i → x < i := by
  intro i
  induction i using Nat.strongRecOn with
  | _ i ih =>
    intro x hx
    cases ho : ops.toList[i]? with
    | none =>
      have := List.getElem?_eq_none_iff.1 ho
      rw [lget_ge an i (by rw [hA.1]; exact this)] at hx
      cases hx
    | some o =>
      obtain ⟨e, h1, h2, h3⟩ := hA.2 i o ho x hx
      have hlt := hE i o (by simpa using ho) e h1 h2
      rcases h3 with rfl | h3
      · exact hlt
      · have := ih e.on hlt x h3; omega

def Closed (ops : Array Oper) (listed : Array Bool) : Prop := ∀ (i : Nat) (o : Oper), ops[i]? = some o → listed.getD i false = true → ∀ e ∈ o.after.toList, Region.binds .any e = true → listed.getD e.on false = true

theorem anc_listed (hA : AncOK an ops.toList) (hE : ∀ (i : Nat) (o : Oper), ops[i]? = some o → ∀ e ∈ o.after.toList, Region.binds .any e = true → e.on < i) {listed : Array Bool} (hC : Closed ops listed) :
    ∀ (i : Nat) (o : Oper), ops[i]? = some o → (∀ e ∈ o.after.toList, Region.binds .any e = true → listed.getD e.on false = true) → ∀ x ∈ lget an i, listed.getD x false = true := by
  intro i
  induction i using Nat.strongRecOn with
  | _ i ih =>
    intro o ho hp x hx
    obtain ⟨e, h1, h2, h3⟩ := hA.2 i o (by simpa using ho) x hx
    have hlt := hE i o ho e h1 h2
    have hl := hp e h1 h2
    rcases h3 with rfl | h3
    · exact hl
    · have hlen : e.on < ops.size := Nat.lt_trans hlt (Array.getElem?_eq_some_iff.1 ho).1
      have hoe : ops[e.on]? = some ops[e.on] := Array.getElem?_eq_getElem hlen
      exact ih e.on hlt _ hoe (hC e.on _ hoe hl) x h3

/-! ### what is known of two that stand beside each other -/
theorem beside_info {cs : List (Nat × Nat)} {i j ci si cj sj : Nat} (hb : beside an j i = true) (hi : cs[i]? = some (ci, si)) : Beside (infoOf an cs j cj sj) (infoOf an cs i ci si) := by
  have hm : ((ci, si), i) ∈ (cs.zipIdx).filter fun x => beside an j x.2 := List.mem_filter.2 ⟨List.mk_mem_zipIdx_iff_getElem?.2 hi, hb⟩
  refine ⟨fun h => ?_, fun h => ?_, fun h => ?_, ?_⟩
  · have h : ci = 2 := h
    simp only [infoOf]
    exact List.mem_map.2 ⟨((ci, si), i), List.mem_filter.2 ⟨hm, by rw [h]; rfl⟩, rfl⟩
  · have h : ci = 3 := h
    simp only [infoOf]
    have h3 : ((cs.zipIdx).filter fun x => beside an j x.2).any (fun x => Nat.beq x.1.1 3) = true := List.any_eq_true.2 ⟨_, hm, by rw [h]; rfl⟩
    rw [h3]
    cases ((cs.zipIdx).filter fun x => beside an j x.2).any (fun x => Nat.ble 4 x.1.1) <;> simp
  · have h : 4 ≤ ci := h
    simp only [infoOf]
    have h4 : ((cs.zipIdx).filter fun x => beside an j x.2).any (fun x => Nat.ble 4 x.1.1) = true := List.any_eq_true.2 ⟨_, hm, Nat.ble_eq.mpr h⟩
    rw [h4]
    simp
  · simp only [infoOf]
    cases hq : (cs.zipIdx).filter fun x => beside an j x.2 with
    | nil => rw [hq] at hm; cases hm
    | cons a r => rfl

theorem slotsOf_len : ∀ (l : List Nat) (base : Nat), (slotsOf base l).length = l.length
  | [], base => rfl
  | c :: r, base => by simp only [slotsOf, List.length_cons]; rw [slotsOf_len r]

theorem slotsOf_get : ∀ (l : List Nat) (base i : Nat), ((slotsOf base l)[i]?).map Prod.fst = l[i]?
  | [], base, i => by simp [slotsOf]
  | c :: r, base, 0 => by simp [slotsOf]
  | c :: r, base, i + 1 => by simp only [slotsOf, List.getElem?_cons_succ]; exact slotsOf_get r _ i
end

/-! ### one operation -/
section
variable {P : Program} {tt : TT} {tab : Tab} {ops : Array Oper} {n0 : Nat} {w0 : World} {ρ0 : Rho} {mem0 : Mem} {σ : St} {a : Act} {w : World} {ρ : Rho}

theorem sub_mask (ms : List Nat) (m : Mem) : Sub (maskL ms m) m := fun h hl => by
  rw [maskL_get] at hl ⊢
  by_cases hm : h ∈ ms
  · rw [if_pos hm] at hl; cases hl
  · rw [if_neg hm]
theorem sub_vis (d : DI) (n0 : Nat) (m : Mem) : Sub (visM d n0 m) m := fun h hl => by
  unfold visM at hl ⊢
  split at hl
  · exact sub_mask _ _ h hl
  · have h1 := sub_mask _ _ h hl
    rw [h1.symm] at hl
    rw [mget_take] at h1 hl
    by_cases hn : h < n0
    · rw [if_pos hn] at h1; exact h1
    · rw [if_neg hn] at hl; cases hl
  · cases hl

theorem item_ok (hT : TTok P tt) (hD : 6 ≤ P.depth) (hTab : TabOK P tab) {x : Item} (hc : x.2.cls = cls tab x.1) {r : Res} (hx : stO tt tab ops n0 x σ = some r) (hG : Good w0 ρ0 mem0 σ a w ρ) {i : Nat} (hi : ops[i]? = some x.1) {K : Act → World → Prop} {Q : Exit → Act → World → Prop}
    (hK : ∀ a' w' ρ', Good w0 ρ0 mem0 (nxt x σ r) a' w' ρ' → K a' w') : wpOp P ops Q i K a w := by
  obtain ⟨v, m, ks⟩ := r
  unfold wpOp
  simp only [hi]
  unfold stO at hx
  rcases guard_ok hG.inv hx with ⟨hw, hx⟩ | ⟨hw, hx⟩
  · rw [if_pos hw]
    have fin : (∀ (K : Act → World → Prop) (Q : Exit → Act → World → Prop), (∀ r w' ρ', VR w' ρ' m v r → WR w' ρ' m → Step w ρ σ.mem w' ρ' m (· ∈ ks) → K (a.put x.1.dst r) w') → x.1.wp P a w K Q) → x.1.wp P a w K Q ∨ (x.1.asks P a w ∧ LetsOut Q) := fun h =>
      .inl (h K Q fun r w' ρ' h1 h2 h3 => hK _ w' ρ' (hG.put h1 h2 h3 x.1.dst))
    unfold dOp at hx
    split at hx
    · cases hx
    · rename_i h1
      have h2 := op_mono1 (σ := σ) (k := fun v => some (v, σ.mem, ([] : List Nat))) (sub_vis x.2 n0 σ.mem) (by rw [← hc]; exact h1) hx
      obtain ⟨v1, h3, h4⟩ := op_doesQ hT hD hTab hG.inv (σ := σ) h2 (by rw [← hc]; exact h1)
      simp only [Option.some.injEq, Prod.mk.injEq] at h3
      obtain ⟨rfl, rfl, rfl⟩ := h3
      exact fin h4
    · obtain ⟨_, hx⟩ := cond_none hx
      obtain ⟨v1, m1, k1, h3, h4⟩ := op_does hT hD hTab hG.inv hx
      simp only [Option.some.injEq, Prod.mk.injEq] at h3
      obtain ⟨rfl, rfl, rfl⟩ := h3
      exact fin h4
    · rename_i h1
      obtain ⟨_, hx⟩ := cond_none hx
      obtain ⟨v1, blks, h2, h3⟩ := op_fresh (tt := tt) (σ := σ) (by rw [← hc]; exact h1) hx
      simp only [Option.some.injEq, Prod.mk.injEq] at h2
      obtain ⟨rfl, rfl, rfl⟩ := h2
      have h5 := h3 σ.mem (sub_mask _ _) (by rw [maskL_len]) Res (fun v m ks => some (v, m, ks))
      obtain ⟨v2, m2, k2, h6, h7⟩ := op_does hT hD hTab hG.inv (σ := σ) h5
      simp only [Option.some.injEq, Prod.mk.injEq] at h6
      obtain ⟨rfl, rfl, rfl⟩ := h6
      have e : (maskL x.2.ms σ.mem ++ blks).drop σ.mem.length = blks := by
        have := maskL_len x.2.ms σ.mem
        rw [← this]; exact List.drop_left
      rw [e] at hK
      exact .inl (h7 K Q fun r w' ρ' g1 g2 g3 => hK _ w' ρ' (hG.put g1 g2 g3 x.1.dst))
    · obtain ⟨v1, m1, k1, h3, h4⟩ := op_does hT hD hTab hG.inv hx
      have h5 : v1 = v ∧ m1 = m ∧ k1 = ks := by
        cases k1 with
        | nil => simpa using h3
        | cons c r =>
          simp only at h3
          obtain ⟨_, h3⟩ := cond_none h3
          simpa using h3
      obtain ⟨rfl, rfl, rfl⟩ := h5
      exact fin h4
  · rw [if_neg (by rw [hw]; simp)]
    simp only [Option.some.injEq, Prod.mk.injEq] at hx
    obtain ⟨rfl, rfl, rfl⟩ := hx
    exact hK _ w ρ (hG.skip x.1.dst)


/-! ### the whole -/
structure Draw (tab : Tab) (ops : Array Oper) (items : List Item) : Prop where
  len : items.length = ops.size
  op : ∀ (i : Nat) (x : Item), items[i]? = some x → ops[i]? = some x.1
  back : ∀ (i : Nat) (o : Oper), ops[i]? = some o → ∀ e ∈ o.after.toList, Region.binds .any e = true → e.on < i
  cls : ∀ (i : Nat) (x : Item), items[i]? = some x → x.2.cls = cls tab x.1
  pair : ∃ an, AncOK an ops.toList ∧ ∀ (i j : Nat) (x y : Item), j < i → items[j]? = some x → items[i]? = some y → j ∉ lget an i → Pair tab ops x y

theorem draw_any (hT : TTok P tt) (hD : 6 ≤ P.depth) (hTab : TabOK P tab) {items : List Item} (hd : Draw tab ops items) {σf : St} {Q : Exit → Act → World → Prop}
    (hQ : ∀ a' w' ρ', Good w0 ρ0 mem0 σf a' w' ρ' → Q .normal a' w') : ∀ (fuel : Nat) (listed : Array Bool) (σ : St) (a : Act) (w : World) (ρ : Rho), listed.size = ops.size → (remL listed 0 items).length ≤ fuel → Closed ops listed →
    runD tt tab ops n0 (remL listed 0 items) σ = some σf → Good w0 ρ0 mem0 σ a w ρ → wpAny P .any ops Q fuel listed a w := by
  obtain ⟨an, hA, hpair⟩ := hd.pair
  have all : ∀ (listed : Array Bool) (σ : St) (a : Act) (w : World) (ρ : Rho), listed.size = ops.size → Region.ready .any ops listed = [] → runD tt tab ops n0 (remL listed 0 items) σ = some σf → Good w0 ρ0 mem0 σ a w ρ → Q .normal a w := by
    intro listed σ a w ρ hsz hr hrun hG
    have key : ∀ i, i < ops.size → listed.getD i true = true := by
      intro i
      induction i using Nat.strongRecOn with
      | _ i ih =>
        intro hi
        cases hl : listed.getD i true with
        | true => rfl
        | false =>
          have : i ∈ Region.ready .any ops listed := mem_ready.2 ⟨hl, ops[i], Array.getElem?_eq_getElem hi, fun e he hb => by
            have hlt := hd.back i _ (Array.getElem?_eq_getElem hi) e (by simpa using he) hb
            have h1 := ih e.on hlt (by omega)
            have h2 : e.on < listed.size := by omega
            simpa [Array.getD_eq_getD_getElem?, Array.getElem?_eq_getElem h2] using h1⟩
          rw [hr] at this
          cases this
    rw [remL_nil (fun i hi => by rw [Nat.zero_add]; exact key i (by rw [← hd.len]; exact hi))] at hrun
    simp only [runD, Option.some.injEq] at hrun
    subst hrun
    exact hQ a w ρ hG
  intro fuel
  induction fuel with
  | zero =>
    intro listed σ a w ρ hsz hf hC hrun hG
    have hr : Region.ready .any ops listed = [] := by
      cases hq : Region.ready .any ops listed with
      | nil => rfl
      | cons i r =>
        exfalso
        obtain ⟨h1, o, h2, _⟩ := mem_ready.1 (show i ∈ Region.ready .any ops listed by rw [hq]; simp)
        have hlt : i < items.length := by rw [hd.len]; exact (Array.getElem?_eq_some_iff.1 h2).1
        obtain ⟨pre, post, h3, _⟩ := remL_split listed items 0 i _ (List.getElem?_eq_getElem hlt) (by rw [Nat.zero_add]; exact h1)
        rw [h3] at hf
        simp at hf
    exact ⟨hr, all listed σ a w ρ hsz hr hrun hG⟩
  | succ fuel ih =>
    intro listed σ a w ρ hsz hf hC hrun hG
    refine ⟨fun hr => all listed σ a w ρ hsz hr hrun hG, fun i hi => ?_⟩
    obtain ⟨h1, o, h2, h3⟩ := mem_ready.1 hi
    have h3 : ∀ e ∈ o.after.toList, Region.binds .any e = true → listed.getD e.on false = true := fun e he hb => h3 e (by simpa using he) hb
    have hlt : i < items.length := by rw [hd.len]; exact (Array.getElem?_eq_some_iff.1 h2).1
    have hx : items[i]? = some items[i] := List.getElem?_eq_getElem hlt
    obtain ⟨pre, post, h4, h5, h6⟩ := remL_split listed items 0 i _ hx (by rw [Nat.zero_add]; exact h1)
    rw [Nat.zero_add] at h5
    have hox := hd.op i _ hx
    rw [h2] at hox
    simp only [Option.some.injEq] at hox
    have hpp : ∀ p ∈ pre, Pair tab ops p items[i] := fun p hp => by
      obtain ⟨j, hj, h7, h8⟩ := h6 p hp
      rw [Nat.zero_add] at h8
      refine hpair i j p _ hj h7 hx fun hm => ?_
      have h9 := anc_listed hA hd.back hC i o h2 h3 j hm
      have hjl : j < listed.size := by rw [hsz]; have := (Array.getElem?_eq_some_iff.1 h2).1; omega
      simp [Array.getElem?_eq_getElem hjl] at h8 h9
      rw [h8] at h9
      cases h9
    rw [h4] at hrun
    have h7 := bubble hpp hrun
    rw [runD] at h7
    obtain ⟨r, h8, h9⟩ := Option.bind_eq_some_iff.1 h7
    refine item_ok hT hD hTab (hd.cls i _ hx) h8 hG (by rw [← hox]; exact h2) fun a' w' ρ' hG' => ?_
    refine ih (listed.setIfInBounds i true) _ a' w' ρ' (by simpa using hsz) ?_ ?_ (by rw [h5]; exact h9) hG'
    · rw [h5]
      rw [h4] at hf
      simp at hf ⊢
      omega
    · intro l ol hol hl e he hb
      by_cases hli : l = i
      · subst hli
        rw [h2] at hol
        cases hol
        exact getD_set_true (h3 e he hb)
      · rw [getD_set_ne false (Ne.symm hli)] at hl
        exact getD_set_true (hC l ol hol hl e he hb)

theorem remL_all : ∀ (l : List Item) (n s : Nat), s + l.length ≤ n → remL (Array.replicate n false) s l = l
  | [], n, s, _ => rfl
  | x :: l, n, s, h => by
    have hs : s < n := by simp at h; omega
    simp only [remL]
    rw [show (Array.replicate n false).getD s true = false by simp [hs], remL_all l n (s + 1) (by simp at h; omega)]
    rfl

theorem drawK_ok {R : Type} (hm : P.follows .mixedOrders = true) (hT : TTok P tt) (hD : 6 ≤ P.depth) (hTab : TabOK P tab) {k : St → Option R} {x : R} (hx : drawK tt tab ops σ k = some x) (hG : Good w0 ρ0 mem0 σ a w ρ) {id : Nat} {Q : Exit → Act → World → Prop}
    (hQ : ∀ σ' a' w' ρ', Good w0 ρ0 mem0 σ' a' w' ρ' → k σ' = some x → Q .normal a' w') : (Code.region id ops true).wp P Q a w := by
  unfold drawK at hx
  simp only at hx
  obtain ⟨hok, hx⟩ := cond_none hx
  rw [dOps_run] at hx
  obtain ⟨σf, hrun, hk⟩ := Option.bind_eq_some_iff.1 hx
  generalize hcl : ops.toList.map (cls tab) = cl at *
  generalize han : ancs ops.toList [] = an at *
  generalize hcs : slotsOf σ.mem.length cl = cs at *
  have hA : AncOK an ops.toList := by
    rw [← han]
    have := ancs_ok ops.toList [] [] ⟨rfl, fun i o h => by simp at h⟩
    simpa using this
  have hcll : cl.length = ops.size := by rw [← hcl]; simp
  have hcsl : cs.length = ops.size := by rw [← hcs, ← hcll]; exact slotsOf_len cl _
  simp only [drawOK, Bool.and_eq_true] at hok
  obtain ⟨⟨hno, hback⟩, hpairs⟩ := hok
  have hcs_get : ∀ (i : Nat) (o : Oper), ops[i]? = some o → ∃ s, cs[i]? = some (cls tab o, s) := fun i o ho => by
    have h1 := slotsOf_get cl σ.mem.length i
    rw [hcs] at h1
    have h2 : cl[i]? = some (cls tab o) := by rw [← hcl, List.getElem?_map]; simp [ho]
    rw [h2] at h1
    obtain ⟨⟨c, s⟩, h3, h4⟩ := Option.map_eq_some_iff.1 h1
    simp only at h4
    subst h4
    exact ⟨s, h3⟩
  have hitem : ∀ (i : Nat) (y : Item), (ops.toList.zip (infos an cs))[i]? = some y → ∃ s, ops[i]? = some y.1 ∧ cs[i]? = some (cls tab y.1, s) ∧ y.2 = infoOf an cs i (cls tab y.1) s := fun i y hy => by
    rw [List.getElem?_zip_eq_some] at hy
    obtain ⟨h1, h2⟩ := hy
    have ho : ops[i]? = some y.1 := by simpa using h1
    obtain ⟨s, hs⟩ := hcs_get i y.1 ho
    refine ⟨s, ho, hs, ?_⟩
    simp only [infos, List.getElem?_map, List.getElem?_zipIdx, hs, Option.map_some, Option.some.injEq] at h2
    rw [← h2, Nat.zero_add]
  have hzip : ∀ (i : Nat) (o : Oper) (c s : Nat), ops[i]? = some o → cs[i]? = some (c, s) → ((o, (c, s)), i) ∈ (ops.toList.zip cs).zipIdx := fun i o c s h1 h2 => by
    rw [List.mk_mem_zipIdx_iff_getElem?, List.getElem?_zip_eq_some]
    exact ⟨by simpa using h1, h2⟩
  have hE : ∀ (i : Nat) (o : Oper), ops[i]? = some o → ∀ e ∈ o.after.toList, Region.binds .any e = true → e.on < i := fun i o ho e he hb => by
    have h1 := List.all_eq_true.1 hback (o, i) (List.mk_mem_zipIdx_iff_getElem?.2 (by simpa using ho))
    have h2 := List.all_eq_true.1 h1 e he
    rw [hb] at h2
    exact Nat.blt_eq.mp (by simpa using h2)
  have hdraw : Draw tab ops (ops.toList.zip (infos an cs)) := by
    refine ⟨by simp [infos, hcsl], fun i y hy => (hitem i y hy).choose_spec.1, hE, fun i y hy => ?_, an, hA, fun i j y z hji hy hz hnm => ?_⟩
    · obtain ⟨s, _, _, h3⟩ := hitem i y hy
      rw [h3]; rfl
    · obtain ⟨sy, oy, cy, iy⟩ := hitem j y hy
      obtain ⟨sz, oz, cz, iz⟩ := hitem i z hz
      have h1 := List.all_eq_true.1 (List.all_eq_true.1 hpairs _ (hzip j y.1 _ _ oy cy)) _ (hzip i z.1 _ _ oz cz)
      simp only [Bool.or_eq_true, Bool.not_eq_true', Bool.and_eq_true] at h1
      have hb1 : memb j (lget an i) = false := by
        cases hq : memb j (lget an i) with
        | false => rfl
        | true => exact absurd (memb_iff.1 hq) hnm
      have hb2 : memb i (lget an j) = false := by
        cases hq : memb i (lget an j) with
        | false => rfl
        | true => have := anc_lt hA hE j i (memb_iff.1 hq); omega
      have hji2 : Nat.blt j i = true := Nat.blt_eq.mpr hji
      have h2 : y.1.apart ops z.1 = true ∧ okCls (cls tab y.1) (cls tab z.1) = true := by
        rcases h1 with (h1 | h1) | h1
        · rw [hji2] at h1; cases h1
        · rw [hb1] at h1; cases h1
        · exact h1
      have hbe1 : beside an j i = true := by
        have : Nat.beq j i = false := by rw [← Bool.not_eq_true, Nat.beq_eq]; omega
        simp [beside, this, hb1, hb2]
      have hbe2 : beside an i j = true := by
        have : Nat.beq i j = false := by rw [← Bool.not_eq_true, Nat.beq_eq]; omega
        simp [beside, this, hb1, hb2]
      refine ⟨h2.1, ?_, ?_, ?_, by rw [iy]; rfl, by rw [iz]; rfl⟩
      · rw [iy, iz]; exact beside_info hbe1 cz
      · rw [iy, iz]; exact beside_info hbe2 cy
      · rw [iy, iz]; exact h2.2
  refine wp_region_any hm (draw_any hT hD hTab hdraw (fun a' w' ρ' h => hQ σf a' w' ρ' h hk) ops.size (Array.replicate ops.size false) _ a _ (ρ ++ List.replicate (countA cl) .none) (by simp) ?_ ?_ (by rw [remL_all _ _ _ (by rw [hdraw.len]; omega)]; exact hrun) ?_)
  · rw [remL_all _ _ _ (by rw [hdraw.len]; omega), hdraw.len]
    exact Nat.le_refl _
  · intro i o _ hl
    rw [getD_replicate_false] at hl
    cases hl
  · have hb : Below w.heap.size w { w with drawn := w.drawn + 1 } := ⟨rfl, rfl, rfl, Nat.le_refl _, fun _ _ => rfl⟩
    have hs1 := step_below hG.inv.wr hb
    have hw1 := wr_below hG.inv.wr hb
    have hs2 := step_slots hw1 (countA cl)
    have hw2 := wr_slots hw1 (countA cl)
    have hs : Step w ρ σ.mem { w with drawn := w.drawn + 1 } (ρ ++ List.replicate (countA cl) .none) (σ.mem ++ List.replicate (countA cl) .dead) (· ∈ ([] : List Nat)) := (hs1.seq hs2).weak fun _ h => h.elim
    exact ⟨hG.inv.upd hw2 hs, hG.step.trans hs (fun _ h => h) (fun _ _ h => by cases h), hG.np⟩

end
end Go.Lv
