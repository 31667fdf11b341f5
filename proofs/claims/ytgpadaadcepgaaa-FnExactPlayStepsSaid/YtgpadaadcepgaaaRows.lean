/-
  No cell of these rows narrows 'for every input' (looked for: loops, veiled, ifaces, maps, wideKeys, modest, calm, conditions, laid).
  DERIVED. THE GIVEN ROWS OF THIS SEAT. 7 by the template 'for every input the law returns true; each argument reads behind the call as it read before'; 0 by the template 'total and deterministic' (their statements: YtgpadaadcepgaaaTotals.lean).
  GIVEN WITH THE SEED: the statements are not yours to turn. If you find one false, say at which input.
  Laid BY PROGRAM, IN A SANDBOX (cutbox-rows.mjs): the forced cells as the released guide's own fill.sh prints them over the translation 106e4eaa328fbaec… (all of the seat's roots in one cut). By AI agents, Wed Nov 11 2026. No macro, syntax, notation, axiom, sorry.
-/
import Derived.Test.YtgpadaadcepgaaaChecked
import GoSem.Claim
import GoSem.ClaimJoined
import GoSem.ClaimMapViews
import Derived.JoinedTies
import Derived.KernelRfl
namespace Go.Proofs.Ytgpadaadcepgaaa
/- THE CELL 'sum', in the pinned program and in every row, IS THE sha256 OF THE DUMP (.gsa) THAT YtgpadaadcepgaaaProg.lean LOADS. Nothing in Lean hashes anything: it is a label: what it is worth is what the hold of that sum in a sandbox is worth. -/
noncomputable def Try.pinned : Pinned := { name := "ytgpadaadcepgaaa", sum := "106e4eaa328fbaecd42c446fdcb0884cd5f70d5fcb2f3d814835afe223cb9abe", checked := Try.checked }
namespace Rows
def none {H : Type} : Left H := { results := [], args := [] }

/-- 'laws.FnExactChanceOfNext': WHATEVER THE INPUT: true; the input reads as it did. -/
def fnExactChanceOfNextSpec : ChangeSpec := { name := "fnExactChanceOfNext", fn := fun _ => fun
  | [d1, d2, d3] => { results := [.lit (.bool true)], args := [d1, d2, d3] }
  | _ => none }
def fnExactChanceOfNextRow : OpenClaim := { program := "ytgpadaadcepgaaa", sum := "106e4eaa328fbaecd42c446fdcb0884cd5f70d5fcb2f3d814835afe223cb9abe", func := "loop.example/g01194/laws.FnExactChanceOfNext", spec := "fnExactChanceOfNext", unfollowed := true, recurses := true, apart := false }
def FnExactChanceOfNextSaid : Prop := fnExactChanceOfNextRow.holds Try.pinned (OpenSpec.ofChange fnExactChanceOfNextSpec)

/-- ITS FALSE NEIGHBOUR: 'it returns false'. Refute it at one input. -/
def fnExactChanceOfNextWrong : ChangeSpec := { name := "fnExactChanceOfNext", fn := fun _ => fun
  | [d1, d2, d3] => { results := [.lit (.bool false)], args := [d1, d2, d3] }
  | _ => none }
def FnExactChanceOfNextWrongFalsely : Prop := fnExactChanceOfNextRow.holds Try.pinned (OpenSpec.ofChange fnExactChanceOfNextWrong)

/-- 'laws.FnExactChanceOfTile': WHATEVER THE INPUT: true; the input reads as it did. -/
def fnExactChanceOfTileSpec : ChangeSpec := { name := "fnExactChanceOfTile", fn := fun _ => fun
  | [d1, d2, d3, d4] => { results := [.lit (.bool true)], args := [d1, d2, d3, d4] }
  | _ => none }
def fnExactChanceOfTileRow : OpenClaim := { program := "ytgpadaadcepgaaa", sum := "106e4eaa328fbaecd42c446fdcb0884cd5f70d5fcb2f3d814835afe223cb9abe", func := "loop.example/g01194/laws.FnExactChanceOfTile", spec := "fnExactChanceOfTile", unfollowed := true, recurses := true, apart := false }
def FnExactChanceOfTileSaid : Prop := fnExactChanceOfTileRow.holds Try.pinned (OpenSpec.ofChange fnExactChanceOfTileSpec)

/-- ITS FALSE NEIGHBOUR: 'it returns false'. Refute it at one input. -/
def fnExactChanceOfTileWrong : ChangeSpec := { name := "fnExactChanceOfTile", fn := fun _ => fun
  | [d1, d2, d3, d4] => { results := [.lit (.bool false)], args := [d1, d2, d3, d4] }
  | _ => none }
def FnExactChanceOfTileWrongFalsely : Prop := fnExactChanceOfTileRow.holds Try.pinned (OpenSpec.ofChange fnExactChanceOfTileWrong)

/-- 'laws.FnExactMergeChance': WHATEVER THE INPUT: true; the input reads as it did. -/
def fnExactMergeChanceSpec : ChangeSpec := { name := "fnExactMergeChance", fn := fun _ => fun
  | [d1, d2] => { results := [.lit (.bool true)], args := [d1, d2] }
  | _ => none }
def fnExactMergeChanceRow : OpenClaim := { program := "ytgpadaadcepgaaa", sum := "106e4eaa328fbaecd42c446fdcb0884cd5f70d5fcb2f3d814835afe223cb9abe", func := "loop.example/g01194/laws.FnExactMergeChance", spec := "fnExactMergeChance", unfollowed := true, recurses := true, apart := false }
def FnExactMergeChanceSaid : Prop := fnExactMergeChanceRow.holds Try.pinned (OpenSpec.ofChange fnExactMergeChanceSpec)

/-- ITS FALSE NEIGHBOUR: 'it returns false'. Refute it at one input. -/
def fnExactMergeChanceWrong : ChangeSpec := { name := "fnExactMergeChance", fn := fun _ => fun
  | [d1, d2] => { results := [.lit (.bool false)], args := [d1, d2] }
  | _ => none }
def FnExactMergeChanceWrongFalsely : Prop := fnExactMergeChanceRow.holds Try.pinned (OpenSpec.ofChange fnExactMergeChanceWrong)

/-- 'laws.FnExactChanceOver': WHATEVER THE INPUT: true; the input reads as it did. -/
def fnExactChanceOverSpec : ChangeSpec := { name := "fnExactChanceOver", fn := fun _ => fun
  | [d1, d2] => { results := [.lit (.bool true)], args := [d1, d2] }
  | _ => none }
def fnExactChanceOverRow : OpenClaim := { program := "ytgpadaadcepgaaa", sum := "106e4eaa328fbaecd42c446fdcb0884cd5f70d5fcb2f3d814835afe223cb9abe", func := "loop.example/g01194/laws.FnExactChanceOver", spec := "fnExactChanceOver", unfollowed := true, recurses := true, apart := false }
def FnExactChanceOverSaid : Prop := fnExactChanceOverRow.holds Try.pinned (OpenSpec.ofChange fnExactChanceOverSpec)

/-- ITS FALSE NEIGHBOUR: 'it returns false'. Refute it at one input. -/
def fnExactChanceOverWrong : ChangeSpec := { name := "fnExactChanceOver", fn := fun _ => fun
  | [d1, d2] => { results := [.lit (.bool false)], args := [d1, d2] }
  | _ => none }
def FnExactChanceOverWrongFalsely : Prop := fnExactChanceOverRow.holds Try.pinned (OpenSpec.ofChange fnExactChanceOverWrong)

/-- 'laws.FnExactIsTrapped': WHATEVER THE INPUT: true; the input reads as it did. -/
def fnExactIsTrappedSpec : ChangeSpec := { name := "fnExactIsTrapped", fn := fun _ => fun
  | [d] => { results := [.lit (.bool true)], args := [d] }
  | _ => none }
def fnExactIsTrappedRow : OpenClaim := { program := "ytgpadaadcepgaaa", sum := "106e4eaa328fbaecd42c446fdcb0884cd5f70d5fcb2f3d814835afe223cb9abe", func := "loop.example/g01194/laws.FnExactIsTrapped", spec := "fnExactIsTrapped", unfollowed := true, recurses := true, apart := false }
def FnExactIsTrappedSaid : Prop := fnExactIsTrappedRow.holds Try.pinned (OpenSpec.ofChange fnExactIsTrappedSpec)

/-- ITS FALSE NEIGHBOUR: 'it returns false'. Refute it at one input. -/
def fnExactIsTrappedWrong : ChangeSpec := { name := "fnExactIsTrapped", fn := fun _ => fun
  | [d] => { results := [.lit (.bool false)], args := [d] }
  | _ => none }
def FnExactIsTrappedWrongFalsely : Prop := fnExactIsTrappedRow.holds Try.pinned (OpenSpec.ofChange fnExactIsTrappedWrong)

/-- 'laws.FnExactStepBetween': WHATEVER THE INPUT: true; the input reads as it did. -/
def fnExactStepBetweenSpec : ChangeSpec := { name := "fnExactStepBetween", fn := fun _ => fun
  | [d1, d2] => { results := [.lit (.bool true)], args := [d1, d2] }
  | _ => none }
def fnExactStepBetweenRow : OpenClaim := { program := "ytgpadaadcepgaaa", sum := "106e4eaa328fbaecd42c446fdcb0884cd5f70d5fcb2f3d814835afe223cb9abe", func := "loop.example/g01194/laws.FnExactStepBetween", spec := "fnExactStepBetween", unfollowed := true, recurses := true, apart := false }
def FnExactStepBetweenSaid : Prop := fnExactStepBetweenRow.holds Try.pinned (OpenSpec.ofChange fnExactStepBetweenSpec)

/-- ITS FALSE NEIGHBOUR: 'it returns false'. Refute it at one input. -/
def fnExactStepBetweenWrong : ChangeSpec := { name := "fnExactStepBetween", fn := fun _ => fun
  | [d1, d2] => { results := [.lit (.bool false)], args := [d1, d2] }
  | _ => none }
def FnExactStepBetweenWrongFalsely : Prop := fnExactStepBetweenRow.holds Try.pinned (OpenSpec.ofChange fnExactStepBetweenWrong)

/-- 'laws.FnExactPlaySteps': WHATEVER THE INPUT: true; the input reads as it did. -/
def fnExactPlayStepsSpec : ChangeSpec := { name := "fnExactPlaySteps", fn := fun _ => fun
  | [d1, d2] => { results := [.lit (.bool true)], args := [d1, d2] }
  | _ => none }
def fnExactPlayStepsRow : OpenClaim := { program := "ytgpadaadcepgaaa", sum := "106e4eaa328fbaecd42c446fdcb0884cd5f70d5fcb2f3d814835afe223cb9abe", func := "loop.example/g01194/laws.FnExactPlaySteps", spec := "fnExactPlaySteps", unfollowed := true, recurses := true, apart := false }
def FnExactPlayStepsSaid : Prop := fnExactPlayStepsRow.holds Try.pinned (OpenSpec.ofChange fnExactPlayStepsSpec)

/-- ITS FALSE NEIGHBOUR: 'it returns false'. Refute it at one input. -/
def fnExactPlayStepsWrong : ChangeSpec := { name := "fnExactPlaySteps", fn := fun _ => fun
  | [d1, d2] => { results := [.lit (.bool false)], args := [d1, d2] }
  | _ => none }
def FnExactPlayStepsWrongFalsely : Prop := fnExactPlayStepsRow.holds Try.pinned (OpenSpec.ofChange fnExactPlayStepsWrong)

/- THE SECOND FORM. 'bulk': how many values and letters a reading holds, each counted each time it is reached (what is shared counts as often as it is met; a slice's spare places count too). A statement '..UptoSaid' is the law's where the arguments, and the package variables that the reading takes, are together of bulk at most 1048576: NARROWER than '..Said'. Prove '..Said' where nothing that the law and all that it calls make is longer than what came in: it says more and counts as full. Else prove '..UptoSaid'. A law counts once. -/
mutual
def uptoBulk {H : Type} : DataW H → Nat
  | .lit (.string bytes) => bytes.length + 1
  | .lit _ => 1
  | .nil => 1
  | .ptr d => uptoBulk d + 1
  | .slice elems spare => uptoBulkAll elems + uptoBulkAll spare + 1
  | .agg parts => uptoBulkAll parts + 1
  | .iface _ d => uptoBulk d + 1
  | .map entries => uptoBulkEntries entries + 1
  | .held _ => 1
def uptoBulkAll {H : Type} : List (DataW H) → Nat
  | [] => 0
  | d :: r => uptoBulk d + uptoBulkAll r
def uptoBulkEntries {H : Type} : List (Lit × DataW H) → Nat
  | [] => 0
  | x :: r => uptoBulkEntry x + uptoBulkEntries r
def uptoBulkEntry {H : Type} : Lit × DataW H → Nat
  | (.string bytes, d) => bytes.length + uptoBulk d + 1
  | (_, d) => uptoBulk d + 1
 end
def uptoSmall : (H : Type) → List (DataW H) → Bool := fun _ ds => decide (uptoBulkAll ds ≤ 1048576)
def OpenSpec.upto (s : _root_.Go.ChangeSpec) : _root_.Go.OpenSpec := { _root_.Go.OpenSpec.ofChange s with cond := some uptoSmall }

/-- 'laws.FnExactChanceOfNext', WHERE WHAT IT READS IS OF BULK AT MOST 1048576: true; the input reads as it did. -/
def fnExactChanceOfNextUptoRow : OpenClaim := { program := "ytgpadaadcepgaaa", sum := "106e4eaa328fbaecd42c446fdcb0884cd5f70d5fcb2f3d814835afe223cb9abe", func := "loop.example/g01194/laws.FnExactChanceOfNext", spec := "fnExactChanceOfNext", unfollowed := true, recurses := true, apart := false, narrowed := true }
def FnExactChanceOfNextUptoSaid : Prop := fnExactChanceOfNextUptoRow.holds Try.pinned (OpenSpec.upto fnExactChanceOfNextSpec)

/-- 'laws.FnExactChanceOfTile', WHERE WHAT IT READS IS OF BULK AT MOST 1048576: true; the input reads as it did. -/
def fnExactChanceOfTileUptoRow : OpenClaim := { program := "ytgpadaadcepgaaa", sum := "106e4eaa328fbaecd42c446fdcb0884cd5f70d5fcb2f3d814835afe223cb9abe", func := "loop.example/g01194/laws.FnExactChanceOfTile", spec := "fnExactChanceOfTile", unfollowed := true, recurses := true, apart := false, narrowed := true }
def FnExactChanceOfTileUptoSaid : Prop := fnExactChanceOfTileUptoRow.holds Try.pinned (OpenSpec.upto fnExactChanceOfTileSpec)

/-- 'laws.FnExactMergeChance', WHERE WHAT IT READS IS OF BULK AT MOST 1048576: true; the input reads as it did. -/
def fnExactMergeChanceUptoRow : OpenClaim := { program := "ytgpadaadcepgaaa", sum := "106e4eaa328fbaecd42c446fdcb0884cd5f70d5fcb2f3d814835afe223cb9abe", func := "loop.example/g01194/laws.FnExactMergeChance", spec := "fnExactMergeChance", unfollowed := true, recurses := true, apart := false, narrowed := true }
def FnExactMergeChanceUptoSaid : Prop := fnExactMergeChanceUptoRow.holds Try.pinned (OpenSpec.upto fnExactMergeChanceSpec)

/-- 'laws.FnExactChanceOver', WHERE WHAT IT READS IS OF BULK AT MOST 1048576: true; the input reads as it did. -/
def fnExactChanceOverUptoRow : OpenClaim := { program := "ytgpadaadcepgaaa", sum := "106e4eaa328fbaecd42c446fdcb0884cd5f70d5fcb2f3d814835afe223cb9abe", func := "loop.example/g01194/laws.FnExactChanceOver", spec := "fnExactChanceOver", unfollowed := true, recurses := true, apart := false, narrowed := true }
def FnExactChanceOverUptoSaid : Prop := fnExactChanceOverUptoRow.holds Try.pinned (OpenSpec.upto fnExactChanceOverSpec)

/-- 'laws.FnExactIsTrapped', WHERE WHAT IT READS IS OF BULK AT MOST 1048576: true; the input reads as it did. -/
def fnExactIsTrappedUptoRow : OpenClaim := { program := "ytgpadaadcepgaaa", sum := "106e4eaa328fbaecd42c446fdcb0884cd5f70d5fcb2f3d814835afe223cb9abe", func := "loop.example/g01194/laws.FnExactIsTrapped", spec := "fnExactIsTrapped", unfollowed := true, recurses := true, apart := false, narrowed := true }
def FnExactIsTrappedUptoSaid : Prop := fnExactIsTrappedUptoRow.holds Try.pinned (OpenSpec.upto fnExactIsTrappedSpec)

/-- 'laws.FnExactStepBetween', WHERE WHAT IT READS IS OF BULK AT MOST 1048576: true; the input reads as it did. -/
def fnExactStepBetweenUptoRow : OpenClaim := { program := "ytgpadaadcepgaaa", sum := "106e4eaa328fbaecd42c446fdcb0884cd5f70d5fcb2f3d814835afe223cb9abe", func := "loop.example/g01194/laws.FnExactStepBetween", spec := "fnExactStepBetween", unfollowed := true, recurses := true, apart := false, narrowed := true }
def FnExactStepBetweenUptoSaid : Prop := fnExactStepBetweenUptoRow.holds Try.pinned (OpenSpec.upto fnExactStepBetweenSpec)

/-- 'laws.FnExactPlaySteps', WHERE WHAT IT READS IS OF BULK AT MOST 1048576: true; the input reads as it did. -/
def fnExactPlayStepsUptoRow : OpenClaim := { program := "ytgpadaadcepgaaa", sum := "106e4eaa328fbaecd42c446fdcb0884cd5f70d5fcb2f3d814835afe223cb9abe", func := "loop.example/g01194/laws.FnExactPlaySteps", spec := "fnExactPlaySteps", unfollowed := true, recurses := true, apart := false, narrowed := true }
def FnExactPlayStepsUptoSaid : Prop := fnExactPlayStepsUptoRow.holds Try.pinned (OpenSpec.upto fnExactPlayStepsSpec)

end Rows
end Go.Proofs.Ytgpadaadcepgaaa
