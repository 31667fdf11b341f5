/-
Every operation of the abstract machine, sound.
-/
import Derived.Test.YtdcimcciokgdaaaLvM
namespace Go.Lv
open Go.RowKit
set_option linter.unusedVariables false
set_option linter.unusedSimpArgs false
set_option linter.unusedSectionVars false
variable [fr : Fr]

section
variable {P : Program} {tt : TT} {tab : Tab} {σ : St} {a : Act} {w : World} {ρ : Rho} {R : Type}

theorem fn_real {mem : Mem} {g : Nat} {first caps : List V} {r : Value} (h : VR w ρ mem (.fn g first caps) r) :
    ∃ fs cs : List Value, r = .func (.func g) fs.toArray cs.toArray ∧ All2 (VR w ρ mem) first fs ∧ All2 (VR w ρ mem) caps cs := by
  obtain ⟨fs, cs, rfl, h1, h2⟩ := h
  have up : ∀ (v : V) (r : Value), VG w ρ mem v r → VR w ρ mem v r := fun v r h => VR_of_VR1 (VR1_of_VF (VF_of_VG h))
  exact ⟨fs, cs, rfl, forall2_mono h1 fun x y _ hp => up x y hp, forall2_mono h2 fun x y _ hp => up x y hp⟩

theorem run_enter {o : Oper} {c : Call} (ho : o.op = .call c) {f : Operand} (hc : c.callee = .value f) {g : FuncId} {fs cs : List Value} (hr : a.eval f = .func (.func g) fs.toArray cs.toArray) (hF : FunOK P g) (w : World) :
    (execOp a.eval o).run P w = .ok (.enter g (fs ++ (c.args.map a.eval).toList ++ cs).toArray) w := by
  obtain ⟨fn, code, h1, h2, h3⟩ := hF.ok
  unfold execOp
  simp only [ho, resolve, hc, Sem.run_bind, hr, Deferred.ofValue, Sem.run_pure, Result.andThen_ok, invoke]
  have e : fs.toArray ++ Array.map a.eval c.args ++ cs.toArray = (fs ++ (Array.map a.eval c.args).toList ++ cs).toArray := by
    apply Array.ext'
    simp
  rw [e]
  have hn : fn.name ≠ "runtime.NumGoroutine" := by simpa using h2
  simp [callFunc, h1, hn, h3]

theorem call_ok (hTab : TabOK P tab) {o : Oper} {c : Call} (ho : o.op = .call c) {f : Operand} (hc : c.callee = .value f) {slot : Option Nat} {k : V → Mem → List Nat → Option R} {x : R} (hI : Inv σ a w ρ)
    (hx : opK tt tab slot o σ k = some x) : Does P o a σ w ρ k x ∧ ((∃ g first caps ent, evO σ f = .fn g first caps ∧ look tab g = some ent ∧ ent.loud = .quiet) → DoesQ P o a σ w ρ k x) := by
  unfold opK at hx
  simp only [ho, hc] at hx
  split at hx
  case h_2 => cases hx
  rename_i g first caps he
  have hv := hI.op f
  rw [he] at hv
  obtain ⟨fs, cs, hr, h1, h2⟩ := fn_real hv
  unfold callK at hx
  split at hx
  case h_1 => cases hx
  rename_i ent hent
  split at hx
  case h_1 => cases hx
  rename_i args1 hro
  obtain ⟨hM, hF⟩ := hTab g ent hent
  have hall : All2 (VR w ρ σ.mem) (first ++ opVals σ c.args ++ caps) (fs ++ (c.args.map a.eval).toList ++ cs) := all2_append (all2_append h1 (hI.ops c.args)) h2
  obtain ⟨v, mem', ks, hk, hq, hcall⟩ := callG_ok fr hI.wr hM hall hro hx
  have hwp : ∀ (K : Act → World → Prop) (Q : Exit → Act → World → Prop), (∀ r w' ρ', VR w' ρ' mem' v r → WR w' ρ' mem' → Step w ρ σ.mem w' ρ' mem' (· ∈ ks) → K (a.put o.dst r) w') → o.wp P a w K Q := fun K Q hK => by
    unfold Oper.wp
    rw [run_enter ho hc hr hF w, Oper.upon_enter]
    exact hcall _ fun r w' ρ' h1 h2 h3 => hK r w' ρ' h1 h2 h3
  refine ⟨⟨v, mem', ks, hk, hwp⟩, fun ⟨g2, first2, caps2, ent2, e1, e2, e3⟩ => ?_⟩
  rw [he] at e1
  cases e1
  rw [hent] at e2
  cases e2
  obtain ⟨rfl, rfl⟩ := hq e3
  exact ⟨v, hk, hwp⟩

theorem op_does (hT : TTok P tt) (hD : 6 ≤ P.depth) (hTab : TabOK P tab) {o : Oper} {slot : Option Nat} {k : V → Mem → List Nat → Option R} {x : R} (hI : Inv σ a w ρ) (hx : opK tt tab slot o σ k = some x) : Does P o a σ w ρ k x := by
  have q : Val P o a σ w ρ k x → Does P o a σ w ρ k x := fun h => (h.doesQ hI).does
  cases ho : o.op with
  | move y => exact q (move_ok (.inl ho) hI hx)
  | assign y => exact q (move_ok (.inr ho) hI hx)
  | pick c y z => exact q (pick_ok ho hI hx)
  | alloc t => exact alloc_ok hT ho hI hx
  | box t y => exact box_ok ho hI hx
  | build t ps => exact q (build_ok hT ho hI hx)
  | buildSlice t n ps => exact buildSlice_ok hT ho hI hx
  | load t y => exact q (load_ok hT ho hI hx)
  | store t y z => exact store_ok hT ho hI hx
  | nilCheck y => exact q (nilCheck_ok ho hI hx)
  | binOp op t y z t' => exact q (binOp_ok hT hD ho hI hx)
  | unOp op t y => exact q (unOp_ok ho hI hx)
  | convert s d y => exact q (convert_ok hT ho hI hx)
  | makeFunc f y z => exact q (makeFunc_ok ho hI hx)
  | makeMap t r =>
    cases r with
    | none => exact makeMap_ok ho hI hx
    | some r => unfold opK at hx; simp only [ho] at hx; cases hx
  | slice t y lo hi mx => exact q (slice_ok hT ho hI hx)
  | fieldAddr t y f => exact q (fieldAddr_ok hT ho hI hx)
  | field t y f => exact q (field_ok hT ho hI hx)
  | indexAddr t y z => exact q (indexAddr_ok hT ho hI hx)
  | index t y z => exact q (index_ok hT ho hI hx)
  | extract y ix => exact q (extract_ok ho hI hx)
  | call c =>
    cases hc : c.callee with
    | value f => exact (call_ok hTab ho hc hI hx).1
    | invoke r m => unfold opK at hx; simp only [ho, hc] at hx; cases hx
    | builtin b =>
      cases b with
      | len => exact q (len_ok hT ho hc hI hx)
      | max => exact q (mm_ok ho (.inl hc) hI hx)
      | min => exact q (mm_ok ho (.inr hc) hI hx)
      | append => exact append_ok hT ho hc hI hx
      | _ => unfold opK at hx; simp only [ho, hc] at hx; cases hx
  | _ => unfold opK at hx; simp only [ho] at hx; cases hx

/-- those that look at memory at most -/
theorem op_doesQ (hT : TTok P tt) (hD : 6 ≤ P.depth) (hTab : TabOK P tab) {o : Oper} {slot : Option Nat} {k : V → Mem → List Nat → Option R} {x : R} (hI : Inv σ a w ρ) (hx : opK tt tab slot o σ k = some x) (hc : cls tab o = 1) : DoesQ P o a σ w ρ k x := by
  have q : Val P o a σ w ρ k x → DoesQ P o a σ w ρ k x := fun h => h.doesQ hI
  cases ho : o.op with
  | move y => exact q (move_ok (.inl ho) hI hx)
  | assign y => exact q (move_ok (.inr ho) hI hx)
  | pick c y z => exact q (pick_ok ho hI hx)
  | build t ps => exact q (build_ok hT ho hI hx)
  | load t y => exact q (load_ok hT ho hI hx)
  | nilCheck y => exact q (nilCheck_ok ho hI hx)
  | binOp op t y z t' => exact q (binOp_ok hT hD ho hI hx)
  | unOp op t y => exact q (unOp_ok ho hI hx)
  | convert s d y => exact q (convert_ok hT ho hI hx)
  | makeFunc f y z => exact q (makeFunc_ok ho hI hx)
  | slice t y lo hi mx => exact q (slice_ok hT ho hI hx)
  | fieldAddr t y f => exact q (fieldAddr_ok hT ho hI hx)
  | field t y f => exact q (field_ok hT ho hI hx)
  | indexAddr t y z => exact q (indexAddr_ok hT ho hI hx)
  | index t y z => exact q (index_ok hT ho hI hx)
  | extract y ix => exact q (extract_ok ho hI hx)
  | lookup t y z b => unfold opK at hx; simp only [ho] at hx; cases hx
  | call c =>
    cases hcc : c.callee with
    | value f =>
      refine (call_ok hTab ho hcc hI hx).2 ?_
      unfold cls at hc
      simp only [ho, hcc] at hc
      cases f with
      | func g =>
       simp only at hc
       split at hc
       case h_2 => cases hc
       rename_i ent hent
       cases hl : ent.loud <;> rw [hl] at hc <;> first | exact ⟨g, [], [], ent, rfl, hent, hl⟩ | cases hc
      | _ => cases hc
    | invoke r m => unfold opK at hx; simp only [ho, hcc] at hx; cases hx
    | builtin b =>
      cases b with
      | len => exact q (len_ok hT ho hcc hI hx)
      | max => exact q (mm_ok ho (.inl hcc) hI hx)
      | min => exact q (mm_ok ho (.inr hcc) hI hx)
      | _ => unfold cls at hc; simp only [ho, hcc] at hc; cases hc
  | makeMap t r =>
    unfold cls at hc
    simp only [ho] at hc
    cases r <;> cases hc
  | _ => unfold cls at hc; simp only [ho] at hc; cases hc

end
end Go.Lv
