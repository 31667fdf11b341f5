/-
  No cell of these rows narrows 'for every input' (looked for: loops, veiled, ifaces, maps, wideKeys, modest, calm, conditions, laid).
  DERIVED. THE GIVEN ROWS OF THIS SEAT. 10 by the template 'for every input the law returns true; each argument reads behind the call as it read before'; 0 by the template 'total and deterministic' (their statements: YtgmnclpjbhmioaaTotals.lean).
  GIVEN WITH THE SEED: the statements are not yours to turn. If you find one false, say at which input.
  Laid BY PROGRAM, IN A SANDBOX (cutbox-rows.mjs): the forced cells as the released guide's own fill.sh prints them over the translation c00e5d7b90f2b28a… (all of the seat's roots in one cut). By AI agents, Wed Nov 11 2026. No macro, syntax, notation, axiom, sorry.
-/
import Derived.Test.YtgmnclpjbhmioaaChecked
import GoSem.Claim
import GoSem.ClaimJoined
import GoSem.ClaimMapViews
import Derived.JoinedTies
import Derived.KernelRfl
namespace Go.Proofs.Ytgmnclpjbhmioaa
/- THE CELL 'sum', in the pinned program and in every row, IS THE sha256 OF THE DUMP (.gsa) THAT YtgmnclpjbhmioaaProg.lean LOADS. Nothing in Lean hashes anything: it is a label: what it is worth is what the hold of that sum in a sandbox is worth. -/
noncomputable def Try.pinned : Pinned := { name := "ytgmnclpjbhmioaa", sum := "c00e5d7b90f2b28a2a3fb375e827700fc5c93f1e1e7184af0ebb24bb6747b1c1", checked := Try.checked }
namespace Rows
def none {H : Type} : Left H := { results := [], args := [] }

/-- 'laws.FnExactCountBefore': WHATEVER THE INPUT: true; the input reads as it did. -/
def fnExactCountBeforeSpec : ChangeSpec := { name := "fnExactCountBefore", fn := fun _ => fun
  | [d1, d2] => { results := [.lit (.bool true)], args := [d1, d2] }
  | _ => none }
def fnExactCountBeforeRow : OpenClaim := { program := "ytgmnclpjbhmioaa", sum := "c00e5d7b90f2b28a2a3fb375e827700fc5c93f1e1e7184af0ebb24bb6747b1c1", func := "loop.example/g01194/laws.FnExactCountBefore", spec := "fnExactCountBefore", unfollowed := true, recurses := true, plainKeys := false, apart := false }
def FnExactCountBeforeSaid : Prop := fnExactCountBeforeRow.holds Try.pinned (OpenSpec.ofChange fnExactCountBeforeSpec)

/-- ITS FALSE NEIGHBOUR: 'it returns false'. Refute it at one input. -/
def fnExactCountBeforeWrong : ChangeSpec := { name := "fnExactCountBefore", fn := fun _ => fun
  | [d1, d2] => { results := [.lit (.bool false)], args := [d1, d2] }
  | _ => none }
def FnExactCountBeforeWrongFalsely : Prop := fnExactCountBeforeRow.holds Try.pinned (OpenSpec.ofChange fnExactCountBeforeWrong)

/-- 'laws.FnExactWaysInto': WHATEVER THE INPUT: true; the input reads as it did. -/
def fnExactWaysIntoSpec : ChangeSpec := { name := "fnExactWaysInto", fn := fun _ => fun
  | [d] => { results := [.lit (.bool true)], args := [d] }
  | _ => none }
def fnExactWaysIntoRow : OpenClaim := { program := "ytgmnclpjbhmioaa", sum := "c00e5d7b90f2b28a2a3fb375e827700fc5c93f1e1e7184af0ebb24bb6747b1c1", func := "loop.example/g01194/laws.FnExactWaysInto", spec := "fnExactWaysInto", unfollowed := true, recurses := true, plainKeys := false, apart := false }
def FnExactWaysIntoSaid : Prop := fnExactWaysIntoRow.holds Try.pinned (OpenSpec.ofChange fnExactWaysIntoSpec)

/-- ITS FALSE NEIGHBOUR: 'it returns false'. Refute it at one input. -/
def fnExactWaysIntoWrong : ChangeSpec := { name := "fnExactWaysInto", fn := fun _ => fun
  | [d] => { results := [.lit (.bool false)], args := [d] }
  | _ => none }
def FnExactWaysIntoWrongFalsely : Prop := fnExactWaysIntoRow.holds Try.pinned (OpenSpec.ofChange fnExactWaysIntoWrong)

/-- 'laws.FnExactIsMade': WHATEVER THE INPUT: true; the input reads as it did. -/
def fnExactIsMadeSpec : ChangeSpec := { name := "fnExactIsMade", fn := fun _ => fun
  | [d] => { results := [.lit (.bool true)], args := [d] }
  | _ => none }
def fnExactIsMadeRow : OpenClaim := { program := "ytgmnclpjbhmioaa", sum := "c00e5d7b90f2b28a2a3fb375e827700fc5c93f1e1e7184af0ebb24bb6747b1c1", func := "loop.example/g01194/laws.FnExactIsMade", spec := "fnExactIsMade", unfollowed := true, recurses := true, plainKeys := false, apart := false }
def FnExactIsMadeSaid : Prop := fnExactIsMadeRow.holds Try.pinned (OpenSpec.ofChange fnExactIsMadeSpec)

/-- ITS FALSE NEIGHBOUR: 'it returns false'. Refute it at one input. -/
def fnExactIsMadeWrong : ChangeSpec := { name := "fnExactIsMade", fn := fun _ => fun
  | [d] => { results := [.lit (.bool false)], args := [d] }
  | _ => none }
def FnExactIsMadeWrongFalsely : Prop := fnExactIsMadeRow.holds Try.pinned (OpenSpec.ofChange fnExactIsMadeWrong)

/-- 'laws.FnExactMostBefore': WHATEVER THE INPUT: true; the input reads as it did. -/
def fnExactMostBeforeSpec : ChangeSpec := { name := "fnExactMostBefore", fn := fun _ => fun
  | [d1, d2] => { results := [.lit (.bool true)], args := [d1, d2] }
  | _ => none }
def fnExactMostBeforeRow : OpenClaim := { program := "ytgmnclpjbhmioaa", sum := "c00e5d7b90f2b28a2a3fb375e827700fc5c93f1e1e7184af0ebb24bb6747b1c1", func := "loop.example/g01194/laws.FnExactMostBefore", spec := "fnExactMostBefore", unfollowed := true, recurses := true, plainKeys := false, apart := false }
def FnExactMostBeforeSaid : Prop := fnExactMostBeforeRow.holds Try.pinned (OpenSpec.ofChange fnExactMostBeforeSpec)

/-- ITS FALSE NEIGHBOUR: 'it returns false'. Refute it at one input. -/
def fnExactMostBeforeWrong : ChangeSpec := { name := "fnExactMostBefore", fn := fun _ => fun
  | [d1, d2] => { results := [.lit (.bool false)], args := [d1, d2] }
  | _ => none }
def FnExactMostBeforeWrongFalsely : Prop := fnExactMostBeforeRow.holds Try.pinned (OpenSpec.ofChange fnExactMostBeforeWrong)

/-- 'laws.FnExactSidesInto': WHATEVER THE INPUT: true; the input reads as it did. -/
def fnExactSidesIntoSpec : ChangeSpec := { name := "fnExactSidesInto", fn := fun _ => fun
  | [d] => { results := [.lit (.bool true)], args := [d] }
  | _ => none }
def fnExactSidesIntoRow : OpenClaim := { program := "ytgmnclpjbhmioaa", sum := "c00e5d7b90f2b28a2a3fb375e827700fc5c93f1e1e7184af0ebb24bb6747b1c1", func := "loop.example/g01194/laws.FnExactSidesInto", spec := "fnExactSidesInto", unfollowed := true, recurses := true, plainKeys := false, apart := false }
def FnExactSidesIntoSaid : Prop := fnExactSidesIntoRow.holds Try.pinned (OpenSpec.ofChange fnExactSidesIntoSpec)

/-- ITS FALSE NEIGHBOUR: 'it returns false'. Refute it at one input. -/
def fnExactSidesIntoWrong : ChangeSpec := { name := "fnExactSidesInto", fn := fun _ => fun
  | [d] => { results := [.lit (.bool false)], args := [d] }
  | _ => none }
def FnExactSidesIntoWrongFalsely : Prop := fnExactSidesIntoRow.holds Try.pinned (OpenSpec.ofChange fnExactSidesIntoWrong)

/-- 'laws.FnExactArisesBy': WHATEVER THE INPUT: true; the input reads as it did. -/
def fnExactArisesBySpec : ChangeSpec := { name := "fnExactArisesBy", fn := fun _ => fun
  | [d] => { results := [.lit (.bool true)], args := [d] }
  | _ => none }
def fnExactArisesByRow : OpenClaim := { program := "ytgmnclpjbhmioaa", sum := "c00e5d7b90f2b28a2a3fb375e827700fc5c93f1e1e7184af0ebb24bb6747b1c1", func := "loop.example/g01194/laws.FnExactArisesBy", spec := "fnExactArisesBy", unfollowed := true, recurses := true, plainKeys := false, apart := false }
def FnExactArisesBySaid : Prop := fnExactArisesByRow.holds Try.pinned (OpenSpec.ofChange fnExactArisesBySpec)

/-- ITS FALSE NEIGHBOUR: 'it returns false'. Refute it at one input. -/
def fnExactArisesByWrong : ChangeSpec := { name := "fnExactArisesBy", fn := fun _ => fun
  | [d] => { results := [.lit (.bool false)], args := [d] }
  | _ => none }
def FnExactArisesByWrongFalsely : Prop := fnExactArisesByRow.holds Try.pinned (OpenSpec.ofChange fnExactArisesByWrong)

/-- 'laws.FnExactCanMerge': WHATEVER THE INPUT: true; the input reads as it did. -/
def fnExactCanMergeSpec : ChangeSpec := { name := "fnExactCanMerge", fn := fun _ => fun
  | [d1, d2] => { results := [.lit (.bool true)], args := [d1, d2] }
  | _ => none }
def fnExactCanMergeRow : OpenClaim := { program := "ytgmnclpjbhmioaa", sum := "c00e5d7b90f2b28a2a3fb375e827700fc5c93f1e1e7184af0ebb24bb6747b1c1", func := "loop.example/g01194/laws.FnExactCanMerge", spec := "fnExactCanMerge", unfollowed := true, recurses := true, plainKeys := false, apart := false }
def FnExactCanMergeSaid : Prop := fnExactCanMergeRow.holds Try.pinned (OpenSpec.ofChange fnExactCanMergeSpec)

/-- ITS FALSE NEIGHBOUR: 'it returns false'. Refute it at one input. -/
def fnExactCanMergeWrong : ChangeSpec := { name := "fnExactCanMerge", fn := fun _ => fun
  | [d1, d2] => { results := [.lit (.bool false)], args := [d1, d2] }
  | _ => none }
def FnExactCanMergeWrongFalsely : Prop := fnExactCanMergeRow.holds Try.pinned (OpenSpec.ofChange fnExactCanMergeWrong)

/-- 'laws.FnExactMustMerge': WHATEVER THE INPUT: true; the input reads as it did. -/
def fnExactMustMergeSpec : ChangeSpec := { name := "fnExactMustMerge", fn := fun _ => fun
  | [d1, d2] => { results := [.lit (.bool true)], args := [d1, d2] }
  | _ => none }
def fnExactMustMergeRow : OpenClaim := { program := "ytgmnclpjbhmioaa", sum := "c00e5d7b90f2b28a2a3fb375e827700fc5c93f1e1e7184af0ebb24bb6747b1c1", func := "loop.example/g01194/laws.FnExactMustMerge", spec := "fnExactMustMerge", unfollowed := true, recurses := true, plainKeys := false, apart := false }
def FnExactMustMergeSaid : Prop := fnExactMustMergeRow.holds Try.pinned (OpenSpec.ofChange fnExactMustMergeSpec)

/-- ITS FALSE NEIGHBOUR: 'it returns false'. Refute it at one input. -/
def fnExactMustMergeWrong : ChangeSpec := { name := "fnExactMustMerge", fn := fun _ => fun
  | [d1, d2] => { results := [.lit (.bool false)], args := [d1, d2] }
  | _ => none }
def FnExactMustMergeWrongFalsely : Prop := fnExactMustMergeRow.holds Try.pinned (OpenSpec.ofChange fnExactMustMergeWrong)

/-- 'laws.FnExactReachBySlides': WHATEVER THE INPUT: true; the input reads as it did. -/
def fnExactReachBySlidesSpec : ChangeSpec := { name := "fnExactReachBySlides", fn := fun _ => fun
  | [d1, d2] => { results := [.lit (.bool true)], args := [d1, d2] }
  | _ => none }
def fnExactReachBySlidesRow : OpenClaim := { program := "ytgmnclpjbhmioaa", sum := "c00e5d7b90f2b28a2a3fb375e827700fc5c93f1e1e7184af0ebb24bb6747b1c1", func := "loop.example/g01194/laws.FnExactReachBySlides", spec := "fnExactReachBySlides", unfollowed := true, recurses := true, plainKeys := false, apart := false }
def FnExactReachBySlidesSaid : Prop := fnExactReachBySlidesRow.holds Try.pinned (OpenSpec.ofChange fnExactReachBySlidesSpec)

/-- ITS FALSE NEIGHBOUR: 'it returns false'. Refute it at one input. -/
def fnExactReachBySlidesWrong : ChangeSpec := { name := "fnExactReachBySlides", fn := fun _ => fun
  | [d1, d2] => { results := [.lit (.bool false)], args := [d1, d2] }
  | _ => none }
def FnExactReachBySlidesWrongFalsely : Prop := fnExactReachBySlidesRow.holds Try.pinned (OpenSpec.ofChange fnExactReachBySlidesWrong)

/-- 'laws.FnExactSnakeBoard': WHATEVER THE INPUT: true; the input reads as it did. -/
def fnExactSnakeBoardSpec : ChangeSpec := { name := "fnExactSnakeBoard", fn := fun _ => fun
  | [d1, d2] => { results := [.lit (.bool true)], args := [d1, d2] }
  | _ => none }
def fnExactSnakeBoardRow : OpenClaim := { program := "ytgmnclpjbhmioaa", sum := "c00e5d7b90f2b28a2a3fb375e827700fc5c93f1e1e7184af0ebb24bb6747b1c1", func := "loop.example/g01194/laws.FnExactSnakeBoard", spec := "fnExactSnakeBoard", unfollowed := true, recurses := true, plainKeys := false, apart := false }
def FnExactSnakeBoardSaid : Prop := fnExactSnakeBoardRow.holds Try.pinned (OpenSpec.ofChange fnExactSnakeBoardSpec)

/-- ITS FALSE NEIGHBOUR: 'it returns false'. Refute it at one input. -/
def fnExactSnakeBoardWrong : ChangeSpec := { name := "fnExactSnakeBoard", fn := fun _ => fun
  | [d1, d2] => { results := [.lit (.bool false)], args := [d1, d2] }
  | _ => none }
def FnExactSnakeBoardWrongFalsely : Prop := fnExactSnakeBoardRow.holds Try.pinned (OpenSpec.ofChange fnExactSnakeBoardWrong)

/- THE SECOND FORM. 'bulk': how many values and letters a reading holds, each counted each time it is reached (what is shared counts as often as it is met; a slice's spare places count too). A statement '..UptoSaid' is the law's where the arguments, and the package variables that the reading takes, are together of bulk at most 1048576: NARROWER than '..Said'. Prove '..Said' where nothing that the law and all that it calls make is longer than what came in: it says more and counts as full. Else prove '..UptoSaid'. A law counts once. -/
mutual
def uptoBulk {H : Type} : DataW H → Nat
  | .lit (.string bytes) => bytes.length + 1
  | .lit _ => 1
  | .nil => 1
  | .ptr d => uptoBulk d + 1
  | .slice elems spare => uptoBulkAll elems + uptoBulkAll spare + 1
  | .agg parts => uptoBulkAll parts + 1
  | .iface _ d => uptoBulk d + 1
  | .map entries => uptoBulkEntries entries + 1
  | .held _ => 1
def uptoBulkAll {H : Type} : List (DataW H) → Nat
  | [] => 0
  | d :: r => uptoBulk d + uptoBulkAll r
def uptoBulkEntries {H : Type} : List (Lit × DataW H) → Nat
  | [] => 0
  | x :: r => uptoBulkEntry x + uptoBulkEntries r
def uptoBulkEntry {H : Type} : Lit × DataW H → Nat
  | (.string bytes, d) => bytes.length + uptoBulk d + 1
  | (_, d) => uptoBulk d + 1
 end
def uptoSmall : (H : Type) → List (DataW H) → Bool := fun _ ds => decide (uptoBulkAll ds ≤ 1048576)
def OpenSpec.upto (s : _root_.Go.ChangeSpec) : _root_.Go.OpenSpec := { _root_.Go.OpenSpec.ofChange s with cond := some uptoSmall }

/-- 'laws.FnExactCountBefore', WHERE WHAT IT READS IS OF BULK AT MOST 1048576: true; the input reads as it did. -/
def fnExactCountBeforeUptoRow : OpenClaim := { program := "ytgmnclpjbhmioaa", sum := "c00e5d7b90f2b28a2a3fb375e827700fc5c93f1e1e7184af0ebb24bb6747b1c1", func := "loop.example/g01194/laws.FnExactCountBefore", spec := "fnExactCountBefore", unfollowed := true, recurses := true, plainKeys := false, apart := false, narrowed := true }
def FnExactCountBeforeUptoSaid : Prop := fnExactCountBeforeUptoRow.holds Try.pinned (OpenSpec.upto fnExactCountBeforeSpec)

/-- 'laws.FnExactWaysInto', WHERE WHAT IT READS IS OF BULK AT MOST 1048576: true; the input reads as it did. -/
def fnExactWaysIntoUptoRow : OpenClaim := { program := "ytgmnclpjbhmioaa", sum := "c00e5d7b90f2b28a2a3fb375e827700fc5c93f1e1e7184af0ebb24bb6747b1c1", func := "loop.example/g01194/laws.FnExactWaysInto", spec := "fnExactWaysInto", unfollowed := true, recurses := true, plainKeys := false, apart := false, narrowed := true }
def FnExactWaysIntoUptoSaid : Prop := fnExactWaysIntoUptoRow.holds Try.pinned (OpenSpec.upto fnExactWaysIntoSpec)

/-- 'laws.FnExactIsMade', WHERE WHAT IT READS IS OF BULK AT MOST 1048576: true; the input reads as it did. -/
def fnExactIsMadeUptoRow : OpenClaim := { program := "ytgmnclpjbhmioaa", sum := "c00e5d7b90f2b28a2a3fb375e827700fc5c93f1e1e7184af0ebb24bb6747b1c1", func := "loop.example/g01194/laws.FnExactIsMade", spec := "fnExactIsMade", unfollowed := true, recurses := true, plainKeys := false, apart := false, narrowed := true }
def FnExactIsMadeUptoSaid : Prop := fnExactIsMadeUptoRow.holds Try.pinned (OpenSpec.upto fnExactIsMadeSpec)

/-- 'laws.FnExactMostBefore', WHERE WHAT IT READS IS OF BULK AT MOST 1048576: true; the input reads as it did. -/
def fnExactMostBeforeUptoRow : OpenClaim := { program := "ytgmnclpjbhmioaa", sum := "c00e5d7b90f2b28a2a3fb375e827700fc5c93f1e1e7184af0ebb24bb6747b1c1", func := "loop.example/g01194/laws.FnExactMostBefore", spec := "fnExactMostBefore", unfollowed := true, recurses := true, plainKeys := false, apart := false, narrowed := true }
def FnExactMostBeforeUptoSaid : Prop := fnExactMostBeforeUptoRow.holds Try.pinned (OpenSpec.upto fnExactMostBeforeSpec)

/-- 'laws.FnExactSidesInto', WHERE WHAT IT READS IS OF BULK AT MOST 1048576: true; the input reads as it did. -/
def fnExactSidesIntoUptoRow : OpenClaim := { program := "ytgmnclpjbhmioaa", sum := "c00e5d7b90f2b28a2a3fb375e827700fc5c93f1e1e7184af0ebb24bb6747b1c1", func := "loop.example/g01194/laws.FnExactSidesInto", spec := "fnExactSidesInto", unfollowed := true, recurses := true, plainKeys := false, apart := false, narrowed := true }
def FnExactSidesIntoUptoSaid : Prop := fnExactSidesIntoUptoRow.holds Try.pinned (OpenSpec.upto fnExactSidesIntoSpec)

/-- 'laws.FnExactArisesBy', WHERE WHAT IT READS IS OF BULK AT MOST 1048576: true; the input reads as it did. -/
def fnExactArisesByUptoRow : OpenClaim := { program := "ytgmnclpjbhmioaa", sum := "c00e5d7b90f2b28a2a3fb375e827700fc5c93f1e1e7184af0ebb24bb6747b1c1", func := "loop.example/g01194/laws.FnExactArisesBy", spec := "fnExactArisesBy", unfollowed := true, recurses := true, plainKeys := false, apart := false, narrowed := true }
def FnExactArisesByUptoSaid : Prop := fnExactArisesByUptoRow.holds Try.pinned (OpenSpec.upto fnExactArisesBySpec)

/-- 'laws.FnExactCanMerge', WHERE WHAT IT READS IS OF BULK AT MOST 1048576: true; the input reads as it did. -/
def fnExactCanMergeUptoRow : OpenClaim := { program := "ytgmnclpjbhmioaa", sum := "c00e5d7b90f2b28a2a3fb375e827700fc5c93f1e1e7184af0ebb24bb6747b1c1", func := "loop.example/g01194/laws.FnExactCanMerge", spec := "fnExactCanMerge", unfollowed := true, recurses := true, plainKeys := false, apart := false, narrowed := true }
def FnExactCanMergeUptoSaid : Prop := fnExactCanMergeUptoRow.holds Try.pinned (OpenSpec.upto fnExactCanMergeSpec)

/-- 'laws.FnExactMustMerge', WHERE WHAT IT READS IS OF BULK AT MOST 1048576: true; the input reads as it did. -/
def fnExactMustMergeUptoRow : OpenClaim := { program := "ytgmnclpjbhmioaa", sum := "c00e5d7b90f2b28a2a3fb375e827700fc5c93f1e1e7184af0ebb24bb6747b1c1", func := "loop.example/g01194/laws.FnExactMustMerge", spec := "fnExactMustMerge", unfollowed := true, recurses := true, plainKeys := false, apart := false, narrowed := true }
def FnExactMustMergeUptoSaid : Prop := fnExactMustMergeUptoRow.holds Try.pinned (OpenSpec.upto fnExactMustMergeSpec)

/-- 'laws.FnExactReachBySlides', WHERE WHAT IT READS IS OF BULK AT MOST 1048576: true; the input reads as it did. -/
def fnExactReachBySlidesUptoRow : OpenClaim := { program := "ytgmnclpjbhmioaa", sum := "c00e5d7b90f2b28a2a3fb375e827700fc5c93f1e1e7184af0ebb24bb6747b1c1", func := "loop.example/g01194/laws.FnExactReachBySlides", spec := "fnExactReachBySlides", unfollowed := true, recurses := true, plainKeys := false, apart := false, narrowed := true }
def FnExactReachBySlidesUptoSaid : Prop := fnExactReachBySlidesUptoRow.holds Try.pinned (OpenSpec.upto fnExactReachBySlidesSpec)

/-- 'laws.FnExactSnakeBoard', WHERE WHAT IT READS IS OF BULK AT MOST 1048576: true; the input reads as it did. -/
def fnExactSnakeBoardUptoRow : OpenClaim := { program := "ytgmnclpjbhmioaa", sum := "c00e5d7b90f2b28a2a3fb375e827700fc5c93f1e1e7184af0ebb24bb6747b1c1", func := "loop.example/g01194/laws.FnExactSnakeBoard", spec := "fnExactSnakeBoard", unfollowed := true, recurses := true, plainKeys := false, apart := false, narrowed := true }
def FnExactSnakeBoardUptoSaid : Prop := fnExactSnakeBoardUptoRow.holds Try.pinned (OpenSpec.upto fnExactSnakeBoardSpec)

end Rows
end Go.Proofs.Ytgmnclpjbhmioaa
