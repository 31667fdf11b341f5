/-
Boards with a placement.
-/
import Derived.Test.YtgdokdkcbgkekaeGePSlide
import Derived.Test.YtgdokdkcbgkekaeGePEm
namespace Go.Lv.P
open Go Go.Lv
set_option linter.unusedVariables false
set_option linter.unusedSimpArgs false

/-- a board with a placement -/
def putP (b p : List Int) : List Int := iset b (0 + (iget p 0).toNat * 4 + (iget p 1).toNat * 1) (iget p 2)

theorem plm_in (b : List Int) : ∀ p ∈ plm b, inR (iget p 0) 4 = true ∧ inR (iget p 1) 4 = true ∧ inB (iget p 2) 1 2 = true := by
  rw [plm, fld_add]
  intro x hx
  simp only [List.nil_append, List.mem_flatMap, List.mem_cons, List.not_mem_nil, or_false] at hx
  obtain ⟨i, hi, hx⟩ := hx
  have hi : i < (em b).length := by
    have := List.mem_range'_1.1 hi
    omega
  have hm : rget (em b) i ∈ cells16 := by
    rw [rgetL, List.getElem?_eq_getElem hi]
    exact em_mem b _ (List.getElem_mem _)
  have key : ∀ c ∈ cells16, inR (iget c 0) 4 = true ∧ inR (iget c 1) 4 = true := cells_all fun r c hr hc => ⟨by show inR (r : Int) 4 = true; rw [inR_cast]; simpa using hr, by show inR (c : Int) 4 = true; rw [inR_cast]; simpa using hc⟩
  obtain ⟨k0, k1⟩ := key _ hm
  rcases hx with rfl | rfl
  · exact ⟨k0, k1, rfl⟩
  · exact ⟨k0, k1, rfl⟩

theorem rget_mem {l : LL} {i : Nat} (h : i < l.length) : rget l i ∈ l := by
  rw [rgetL, List.getElem?_eq_getElem h]
  exact List.getElem_mem _

theorem putP_ok {b p : List Int} (hb : b.length = 16) (ok : okB b = true) (h2 : inB (iget p 2) 1 2 = true) : (putP b p).length = 16 ∧ okB (putP b p) = true := by
  refine ⟨by rw [putP, iset_len]; exact hb, (okB_iff _).2 (iset_all ((okB_iff b).1 ok) _ ?_)⟩
  simp [inB] at h2
  simp [tileOK, inB]
  omega
end Go.Lv.P
