/-
  No cell of these rows narrows 'for every input' (looked for: loops, veiled, ifaces, maps, wideKeys, modest, calm, conditions, laid).
  DERIVED. THE GIVEN ROWS OF THIS SEAT. 4 by the template 'for every input the law returns true; each argument reads behind the call as it read before'; 0 by the template 'total and deterministic' (their statements: YtloemkielkdegaaTotals.lean).
  GIVEN WITH THE SEED: the statements are not yours to turn. If you find one false, say at which input.
  Laid BY PROGRAM, IN A SANDBOX (cutbox-rows.mjs): the forced cells as the released guide's own fill.sh prints them over the translation b53d88da3fcd049f… (all of the seat's roots in one cut). By AI agents, Wed Nov 11 2026. No macro, syntax, notation, axiom, sorry.
-/
import Derived.Test.YtloemkielkdegaaChecked
import GoSem.Claim
import GoSem.ClaimJoined
import GoSem.ClaimMapViews
import Derived.JoinedTies
import Derived.KernelRfl
namespace Go.Proofs.Ytloemkielkdegaa
/- THE CELL 'sum', in the pinned program and in every row, IS THE sha256 OF THE DUMP (.gsa) THAT YtloemkielkdegaaProg.lean LOADS. Nothing in Lean hashes anything: it is a label: what it is worth is what the hold of that sum in a sandbox is worth. -/
noncomputable def Try.pinned : Pinned := { name := "ytloemkielkdegaa", sum := "b53d88da3fcd049ff0e7ab9cafd32b1cec5c86c60c0986c850f3132add42e424", checked := Try.checked }
namespace Rows
def none {H : Type} : Left H := { results := [], args := [] }

/-- 'laws.FnExactMeanScore': WHATEVER THE INPUT: true; the input reads as it did. -/
def fnExactMeanScoreSpec : ChangeSpec := { name := "fnExactMeanScore", fn := fun _ => fun
  | [d1, d2] => { results := [.lit (.bool true)], args := [d1, d2] }
  | _ => none }
def fnExactMeanScoreRow : OpenClaim := { program := "ytloemkielkdegaa", sum := "b53d88da3fcd049ff0e7ab9cafd32b1cec5c86c60c0986c850f3132add42e424", func := "loop.example/g01194/laws.FnExactMeanScore", spec := "fnExactMeanScore", unfollowed := true, recurses := true, apart := false }
def FnExactMeanScoreSaid : Prop := fnExactMeanScoreRow.holds Try.pinned (OpenSpec.ofChange fnExactMeanScoreSpec)

/-- ITS FALSE NEIGHBOUR: 'it returns false'. Refute it at one input. -/
def fnExactMeanScoreWrong : ChangeSpec := { name := "fnExactMeanScore", fn := fun _ => fun
  | [d1, d2] => { results := [.lit (.bool false)], args := [d1, d2] }
  | _ => none }
def FnExactMeanScoreWrongFalsely : Prop := fnExactMeanScoreRow.holds Try.pinned (OpenSpec.ofChange fnExactMeanScoreWrong)

/-- 'laws.FnExactFirstWell': WHATEVER THE INPUT: true; the input reads as it did. -/
def fnExactFirstWellSpec : ChangeSpec := { name := "fnExactFirstWell", fn := fun _ => fun
  | [d1, d2] => { results := [.lit (.bool true)], args := [d1, d2] }
  | _ => none }
def fnExactFirstWellRow : OpenClaim := { program := "ytloemkielkdegaa", sum := "b53d88da3fcd049ff0e7ab9cafd32b1cec5c86c60c0986c850f3132add42e424", func := "loop.example/g01194/laws.FnExactFirstWell", spec := "fnExactFirstWell", unfollowed := true, recurses := true, apart := false }
def FnExactFirstWellSaid : Prop := fnExactFirstWellRow.holds Try.pinned (OpenSpec.ofChange fnExactFirstWellSpec)

/-- ITS FALSE NEIGHBOUR: 'it returns false'. Refute it at one input. -/
def fnExactFirstWellWrong : ChangeSpec := { name := "fnExactFirstWell", fn := fun _ => fun
  | [d1, d2] => { results := [.lit (.bool false)], args := [d1, d2] }
  | _ => none }
def FnExactFirstWellWrongFalsely : Prop := fnExactFirstWellRow.holds Try.pinned (OpenSpec.ofChange fnExactFirstWellWrong)

/-- 'laws.FnExactPotentialOf': WHATEVER THE INPUT: true; the input reads as it did. -/
def fnExactPotentialOfSpec : ChangeSpec := { name := "fnExactPotentialOf", fn := fun _ => fun
  | [d] => { results := [.lit (.bool true)], args := [d] }
  | _ => none }
def fnExactPotentialOfRow : OpenClaim := { program := "ytloemkielkdegaa", sum := "b53d88da3fcd049ff0e7ab9cafd32b1cec5c86c60c0986c850f3132add42e424", func := "loop.example/g01194/laws.FnExactPotentialOf", spec := "fnExactPotentialOf", unfollowed := true, recurses := true, apart := false }
def FnExactPotentialOfSaid : Prop := fnExactPotentialOfRow.holds Try.pinned (OpenSpec.ofChange fnExactPotentialOfSpec)

/-- ITS FALSE NEIGHBOUR: 'it returns false'. Refute it at one input. -/
def fnExactPotentialOfWrong : ChangeSpec := { name := "fnExactPotentialOf", fn := fun _ => fun
  | [d] => { results := [.lit (.bool false)], args := [d] }
  | _ => none }
def FnExactPotentialOfWrongFalsely : Prop := fnExactPotentialOfRow.holds Try.pinned (OpenSpec.ofChange fnExactPotentialOfWrong)

/-- 'laws.FnExactScoreBetween': WHATEVER THE INPUT: true; the input reads as it did. -/
def fnExactScoreBetweenSpec : ChangeSpec := { name := "fnExactScoreBetween", fn := fun _ => fun
  | [d1, d2, d3] => { results := [.lit (.bool true)], args := [d1, d2, d3] }
  | _ => none }
def fnExactScoreBetweenRow : OpenClaim := { program := "ytloemkielkdegaa", sum := "b53d88da3fcd049ff0e7ab9cafd32b1cec5c86c60c0986c850f3132add42e424", func := "loop.example/g01194/laws.FnExactScoreBetween", spec := "fnExactScoreBetween", unfollowed := true, recurses := true, apart := false }
def FnExactScoreBetweenSaid : Prop := fnExactScoreBetweenRow.holds Try.pinned (OpenSpec.ofChange fnExactScoreBetweenSpec)

/-- ITS FALSE NEIGHBOUR: 'it returns false'. Refute it at one input. -/
def fnExactScoreBetweenWrong : ChangeSpec := { name := "fnExactScoreBetween", fn := fun _ => fun
  | [d1, d2, d3] => { results := [.lit (.bool false)], args := [d1, d2, d3] }
  | _ => none }
def FnExactScoreBetweenWrongFalsely : Prop := fnExactScoreBetweenRow.holds Try.pinned (OpenSpec.ofChange fnExactScoreBetweenWrong)

/- THE SECOND FORM. 'bulk': how many values and letters a reading holds, each counted each time it is reached (what is shared counts as often as it is met; a slice's spare places count too). A statement '..UptoSaid' is the law's where the arguments, and the package variables that the reading takes, are together of bulk at most 1048576: NARROWER than '..Said'. Prove '..Said' where nothing that the law and all that it calls make is longer than what came in: it says more and counts as full. Else prove '..UptoSaid'. A law counts once. -/
mutual
def uptoBulk {H : Type} : DataW H → Nat
  | .lit (.string bytes) => bytes.length + 1
  | .lit _ => 1
  | .nil => 1
  | .ptr d => uptoBulk d + 1
  | .slice elems spare => uptoBulkAll elems + uptoBulkAll spare + 1
  | .agg parts => uptoBulkAll parts + 1
  | .iface _ d => uptoBulk d + 1
  | .map entries => uptoBulkEntries entries + 1
  | .held _ => 1
def uptoBulkAll {H : Type} : List (DataW H) → Nat
  | [] => 0
  | d :: r => uptoBulk d + uptoBulkAll r
def uptoBulkEntries {H : Type} : List (Lit × DataW H) → Nat
  | [] => 0
  | x :: r => uptoBulkEntry x + uptoBulkEntries r
def uptoBulkEntry {H : Type} : Lit × DataW H → Nat
  | (.string bytes, d) => bytes.length + uptoBulk d + 1
  | (_, d) => uptoBulk d + 1
 end
def uptoSmall : (H : Type) → List (DataW H) → Bool := fun _ ds => decide (uptoBulkAll ds ≤ 1048576)
def OpenSpec.upto (s : _root_.Go.ChangeSpec) : _root_.Go.OpenSpec := { _root_.Go.OpenSpec.ofChange s with cond := some uptoSmall }

/-- 'laws.FnExactMeanScore', WHERE WHAT IT READS IS OF BULK AT MOST 1048576: true; the input reads as it did. -/
def fnExactMeanScoreUptoRow : OpenClaim := { program := "ytloemkielkdegaa", sum := "b53d88da3fcd049ff0e7ab9cafd32b1cec5c86c60c0986c850f3132add42e424", func := "loop.example/g01194/laws.FnExactMeanScore", spec := "fnExactMeanScore", unfollowed := true, recurses := true, apart := false, narrowed := true }
def FnExactMeanScoreUptoSaid : Prop := fnExactMeanScoreUptoRow.holds Try.pinned (OpenSpec.upto fnExactMeanScoreSpec)

/-- 'laws.FnExactFirstWell', WHERE WHAT IT READS IS OF BULK AT MOST 1048576: true; the input reads as it did. -/
def fnExactFirstWellUptoRow : OpenClaim := { program := "ytloemkielkdegaa", sum := "b53d88da3fcd049ff0e7ab9cafd32b1cec5c86c60c0986c850f3132add42e424", func := "loop.example/g01194/laws.FnExactFirstWell", spec := "fnExactFirstWell", unfollowed := true, recurses := true, apart := false, narrowed := true }
def FnExactFirstWellUptoSaid : Prop := fnExactFirstWellUptoRow.holds Try.pinned (OpenSpec.upto fnExactFirstWellSpec)

/-- 'laws.FnExactPotentialOf', WHERE WHAT IT READS IS OF BULK AT MOST 1048576: true; the input reads as it did. -/
def fnExactPotentialOfUptoRow : OpenClaim := { program := "ytloemkielkdegaa", sum := "b53d88da3fcd049ff0e7ab9cafd32b1cec5c86c60c0986c850f3132add42e424", func := "loop.example/g01194/laws.FnExactPotentialOf", spec := "fnExactPotentialOf", unfollowed := true, recurses := true, apart := false, narrowed := true }
def FnExactPotentialOfUptoSaid : Prop := fnExactPotentialOfUptoRow.holds Try.pinned (OpenSpec.upto fnExactPotentialOfSpec)

/-- 'laws.FnExactScoreBetween', WHERE WHAT IT READS IS OF BULK AT MOST 1048576: true; the input reads as it did. -/
def fnExactScoreBetweenUptoRow : OpenClaim := { program := "ytloemkielkdegaa", sum := "b53d88da3fcd049ff0e7ab9cafd32b1cec5c86c60c0986c850f3132add42e424", func := "loop.example/g01194/laws.FnExactScoreBetween", spec := "fnExactScoreBetween", unfollowed := true, recurses := true, apart := false, narrowed := true }
def FnExactScoreBetweenUptoSaid : Prop := fnExactScoreBetweenUptoRow.holds Try.pinned (OpenSpec.upto fnExactScoreBetweenSpec)

end Rows
end Go.Proofs.Ytloemkielkdegaa
