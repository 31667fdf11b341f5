/-
  No cell of these rows narrows 'for every input' (looked for: loops, veiled, ifaces, maps, wideKeys, modest, calm, conditions, laid).
  DERIVED. THE GIVEN ROWS OF THIS SEAT. 4 by the template 'for every input the law returns true; each argument reads behind the call as it read before'; 0 by the template 'total and deterministic' (their statements: YtkclnchkemacgaaTotals.lean).
  GIVEN WITH THE SEED: the statements are not yours to turn. If you find one false, say at which input.
  Laid BY PROGRAM, IN A SANDBOX (cutbox-rows.mjs): the forced cells as the released guide's own fill.sh prints them over the translation 5518319110c6b3ca… (all of the seat's roots in one cut). By AI agents, Wed Nov 11 2026. No macro, syntax, notation, axiom, sorry.
-/
import Derived.Test.YtkclnchkemacgaaChecked
import GoSem.Claim
import GoSem.ClaimJoined
import GoSem.ClaimMapViews
import Derived.JoinedTies
import Derived.KernelRfl
namespace Go.Proofs.Ytkclnchkemacgaa
/- THE CELL 'sum', in the pinned program and in every row, IS THE sha256 OF THE DUMP (.gsa) THAT YtkclnchkemacgaaProg.lean LOADS. Nothing in Lean hashes anything: it is a label: what it is worth is what the hold of that sum in a sandbox is worth. -/
noncomputable def Try.pinned : Pinned := { name := "ytkclnchkemacgaa", sum := "5518319110c6b3ca372aec2c55c7e367d28d8b70b34d2d895c0bae57eb4f5b69", checked := Try.checked }
namespace Rows
def none {H : Type} : Left H := { results := [], args := [] }

/-- 'laws.FnExactFewestSlides': WHATEVER THE INPUT: true; the input reads as it did. -/
def fnExactFewestSlidesSpec : ChangeSpec := { name := "fnExactFewestSlides", fn := fun _ => fun
  | [d1, d2] => { results := [.lit (.bool true)], args := [d1, d2] }
  | _ => none }
def fnExactFewestSlidesRow : OpenClaim := { program := "ytkclnchkemacgaa", sum := "5518319110c6b3ca372aec2c55c7e367d28d8b70b34d2d895c0bae57eb4f5b69", func := "loop.example/g01194/laws.FnExactFewestSlides", spec := "fnExactFewestSlides", unfollowed := true, recurses := true, plainKeys := false, apart := false }
def FnExactFewestSlidesSaid : Prop := fnExactFewestSlidesRow.holds Try.pinned (OpenSpec.ofChange fnExactFewestSlidesSpec)

/-- ITS FALSE NEIGHBOUR: 'it returns false'. Refute it at one input. -/
def fnExactFewestSlidesWrong : ChangeSpec := { name := "fnExactFewestSlides", fn := fun _ => fun
  | [d1, d2] => { results := [.lit (.bool false)], args := [d1, d2] }
  | _ => none }
def FnExactFewestSlidesWrongFalsely : Prop := fnExactFewestSlidesRow.holds Try.pinned (OpenSpec.ofChange fnExactFewestSlidesWrong)

/-- 'laws.FnExactHighestBySlides': WHATEVER THE INPUT: true; the input reads as it did. -/
def fnExactHighestBySlidesSpec : ChangeSpec := { name := "fnExactHighestBySlides", fn := fun _ => fun
  | [d] => { results := [.lit (.bool true)], args := [d] }
  | _ => none }
def fnExactHighestBySlidesRow : OpenClaim := { program := "ytkclnchkemacgaa", sum := "5518319110c6b3ca372aec2c55c7e367d28d8b70b34d2d895c0bae57eb4f5b69", func := "loop.example/g01194/laws.FnExactHighestBySlides", spec := "fnExactHighestBySlides", unfollowed := true, recurses := true, plainKeys := false, apart := false }
def FnExactHighestBySlidesSaid : Prop := fnExactHighestBySlidesRow.holds Try.pinned (OpenSpec.ofChange fnExactHighestBySlidesSpec)

/-- ITS FALSE NEIGHBOUR: 'it returns false'. Refute it at one input. -/
def fnExactHighestBySlidesWrong : ChangeSpec := { name := "fnExactHighestBySlides", fn := fun _ => fun
  | [d] => { results := [.lit (.bool false)], args := [d] }
  | _ => none }
def FnExactHighestBySlidesWrongFalsely : Prop := fnExactHighestBySlidesRow.holds Try.pinned (OpenSpec.ofChange fnExactHighestBySlidesWrong)

/-- 'laws.FnExactFirstSlides': WHATEVER THE INPUT: true; the input reads as it did. -/
def fnExactFirstSlidesSpec : ChangeSpec := { name := "fnExactFirstSlides", fn := fun _ => fun
  | [d1, d2] => { results := [.lit (.bool true)], args := [d1, d2] }
  | _ => none }
def fnExactFirstSlidesRow : OpenClaim := { program := "ytkclnchkemacgaa", sum := "5518319110c6b3ca372aec2c55c7e367d28d8b70b34d2d895c0bae57eb4f5b69", func := "loop.example/g01194/laws.FnExactFirstSlides", spec := "fnExactFirstSlides", unfollowed := true, recurses := true, plainKeys := false, apart := false }
def FnExactFirstSlidesSaid : Prop := fnExactFirstSlidesRow.holds Try.pinned (OpenSpec.ofChange fnExactFirstSlidesSpec)

/-- ITS FALSE NEIGHBOUR: 'it returns false'. Refute it at one input. -/
def fnExactFirstSlidesWrong : ChangeSpec := { name := "fnExactFirstSlides", fn := fun _ => fun
  | [d1, d2] => { results := [.lit (.bool false)], args := [d1, d2] }
  | _ => none }
def FnExactFirstSlidesWrongFalsely : Prop := fnExactFirstSlidesRow.holds Try.pinned (OpenSpec.ofChange fnExactFirstSlidesWrong)

/-- 'laws.FnExactCountNext': WHATEVER THE INPUT: true; the input reads as it did. -/
def fnExactCountNextSpec : ChangeSpec := { name := "fnExactCountNext", fn := fun _ => fun
  | [d] => { results := [.lit (.bool true)], args := [d] }
  | _ => none }
def fnExactCountNextRow : OpenClaim := { program := "ytkclnchkemacgaa", sum := "5518319110c6b3ca372aec2c55c7e367d28d8b70b34d2d895c0bae57eb4f5b69", func := "loop.example/g01194/laws.FnExactCountNext", spec := "fnExactCountNext", unfollowed := true, recurses := true, plainKeys := false, apart := false }
def FnExactCountNextSaid : Prop := fnExactCountNextRow.holds Try.pinned (OpenSpec.ofChange fnExactCountNextSpec)

/-- ITS FALSE NEIGHBOUR: 'it returns false'. Refute it at one input. -/
def fnExactCountNextWrong : ChangeSpec := { name := "fnExactCountNext", fn := fun _ => fun
  | [d] => { results := [.lit (.bool false)], args := [d] }
  | _ => none }
def FnExactCountNextWrongFalsely : Prop := fnExactCountNextRow.holds Try.pinned (OpenSpec.ofChange fnExactCountNextWrong)

/- THE SECOND FORM. 'bulk': how many values and letters a reading holds, each counted each time it is reached (what is shared counts as often as it is met; a slice's spare places count too). A statement '..UptoSaid' is the law's where the arguments, and the package variables that the reading takes, are together of bulk at most 1048576: NARROWER than '..Said'. Prove '..Said' where nothing that the law and all that it calls make is longer than what came in: it says more and counts as full. Else prove '..UptoSaid'. A law counts once. -/
mutual
def uptoBulk {H : Type} : DataW H → Nat
  | .lit (.string bytes) => bytes.length + 1
  | .lit _ => 1
  | .nil => 1
  | .ptr d => uptoBulk d + 1
  | .slice elems spare => uptoBulkAll elems + uptoBulkAll spare + 1
  | .agg parts => uptoBulkAll parts + 1
  | .iface _ d => uptoBulk d + 1
  | .map entries => uptoBulkEntries entries + 1
  | .held _ => 1
def uptoBulkAll {H : Type} : List (DataW H) → Nat
  | [] => 0
  | d :: r => uptoBulk d + uptoBulkAll r
def uptoBulkEntries {H : Type} : List (Lit × DataW H) → Nat
  | [] => 0
  | x :: r => uptoBulkEntry x + uptoBulkEntries r
def uptoBulkEntry {H : Type} : Lit × DataW H → Nat
  | (.string bytes, d) => bytes.length + uptoBulk d + 1
  | (_, d) => uptoBulk d + 1
 end
def uptoSmall : (H : Type) → List (DataW H) → Bool := fun _ ds => decide (uptoBulkAll ds ≤ 1048576)
def OpenSpec.upto (s : _root_.Go.ChangeSpec) : _root_.Go.OpenSpec := { _root_.Go.OpenSpec.ofChange s with cond := some uptoSmall }

/-- 'laws.FnExactFewestSlides', WHERE WHAT IT READS IS OF BULK AT MOST 1048576: true; the input reads as it did. -/
def fnExactFewestSlidesUptoRow : OpenClaim := { program := "ytkclnchkemacgaa", sum := "5518319110c6b3ca372aec2c55c7e367d28d8b70b34d2d895c0bae57eb4f5b69", func := "loop.example/g01194/laws.FnExactFewestSlides", spec := "fnExactFewestSlides", unfollowed := true, recurses := true, plainKeys := false, apart := false, narrowed := true }
def FnExactFewestSlidesUptoSaid : Prop := fnExactFewestSlidesUptoRow.holds Try.pinned (OpenSpec.upto fnExactFewestSlidesSpec)

/-- 'laws.FnExactHighestBySlides', WHERE WHAT IT READS IS OF BULK AT MOST 1048576: true; the input reads as it did. -/
def fnExactHighestBySlidesUptoRow : OpenClaim := { program := "ytkclnchkemacgaa", sum := "5518319110c6b3ca372aec2c55c7e367d28d8b70b34d2d895c0bae57eb4f5b69", func := "loop.example/g01194/laws.FnExactHighestBySlides", spec := "fnExactHighestBySlides", unfollowed := true, recurses := true, plainKeys := false, apart := false, narrowed := true }
def FnExactHighestBySlidesUptoSaid : Prop := fnExactHighestBySlidesUptoRow.holds Try.pinned (OpenSpec.upto fnExactHighestBySlidesSpec)

/-- 'laws.FnExactFirstSlides', WHERE WHAT IT READS IS OF BULK AT MOST 1048576: true; the input reads as it did. -/
def fnExactFirstSlidesUptoRow : OpenClaim := { program := "ytkclnchkemacgaa", sum := "5518319110c6b3ca372aec2c55c7e367d28d8b70b34d2d895c0bae57eb4f5b69", func := "loop.example/g01194/laws.FnExactFirstSlides", spec := "fnExactFirstSlides", unfollowed := true, recurses := true, plainKeys := false, apart := false, narrowed := true }
def FnExactFirstSlidesUptoSaid : Prop := fnExactFirstSlidesUptoRow.holds Try.pinned (OpenSpec.upto fnExactFirstSlidesSpec)

/-- 'laws.FnExactCountNext', WHERE WHAT IT READS IS OF BULK AT MOST 1048576: true; the input reads as it did. -/
def fnExactCountNextUptoRow : OpenClaim := { program := "ytkclnchkemacgaa", sum := "5518319110c6b3ca372aec2c55c7e367d28d8b70b34d2d895c0bae57eb4f5b69", func := "loop.example/g01194/laws.FnExactCountNext", spec := "fnExactCountNext", unfollowed := true, recurses := true, plainKeys := false, apart := false, narrowed := true }
def FnExactCountNextUptoSaid : Prop := fnExactCountNextUptoRow.holds Try.pinned (OpenSpec.upto fnExactCountNextSpec)

end Rows
end Go.Proofs.Ytkclnchkemacgaa
