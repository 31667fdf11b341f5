/-
  No cell of these rows narrows 'for every input' (looked for: loops, veiled, ifaces, maps, wideKeys, modest, calm, conditions, laid).
  DERIVED. THE GIVEN ROWS OF THIS SEAT. 13 by the template 'for every input the law returns true; each argument reads behind the call as it read before'; 0 by the template 'total and deterministic' (their statements: YtmdicfifhppjaaaTotals.lean).
  GIVEN WITH THE SEED: the statements are not yours to turn. If you find one false, say at which input.
  Laid BY PROGRAM, IN A SANDBOX (cutbox-rows.mjs): the forced cells as the released guide's own fill.sh prints them over the translation fecceee86ead5c49… (all of the seat's roots in one cut). By AI agents, Wed Nov 11 2026. No macro, syntax, notation, axiom, sorry.
-/
import Derived.Test.YtmdicfifhppjaaaChecked
import GoSem.Claim
import GoSem.ClaimJoined
import GoSem.ClaimMapViews
import Derived.JoinedTies
import Derived.KernelRfl
namespace Go.Proofs.Ytmdicfifhppjaaa
/- THE CELL 'sum', in the pinned program and in every row, IS THE sha256 OF THE DUMP (.gsa) THAT YtmdicfifhppjaaaProg.lean LOADS. Nothing in Lean hashes anything: it is a label: what it is worth is what the hold of that sum in a sandbox is worth. -/
noncomputable def Try.pinned : Pinned := { name := "ytmdicfifhppjaaa", sum := "fecceee86ead5c49ec4878cfa39cba77a8627e63e210c8bb4efa5a87eca6a619", checked := Try.checked }
namespace Rows
def none {H : Type} : Left H := { results := [], args := [] }

/-- 'laws.FnExactIsPossible': WHATEVER THE INPUT: true; the input reads as it did. -/
def fnExactIsPossibleSpec : ChangeSpec := { name := "fnExactIsPossible", fn := fun _ => fun
  | [d1, d2] => { results := [.lit (.bool true)], args := [d1, d2] }
  | _ => none }
def fnExactIsPossibleRow : OpenClaim := { program := "ytmdicfifhppjaaa", sum := "fecceee86ead5c49ec4878cfa39cba77a8627e63e210c8bb4efa5a87eca6a619", func := "loop.example/g01194/laws.FnExactIsPossible", spec := "fnExactIsPossible", apart := false }
def FnExactIsPossibleSaid : Prop := fnExactIsPossibleRow.holds Try.pinned (OpenSpec.ofChange fnExactIsPossibleSpec)

/-- ITS FALSE NEIGHBOUR: 'it returns false'. Refute it at one input. -/
def fnExactIsPossibleWrong : ChangeSpec := { name := "fnExactIsPossible", fn := fun _ => fun
  | [d1, d2] => { results := [.lit (.bool false)], args := [d1, d2] }
  | _ => none }
def FnExactIsPossibleWrongFalsely : Prop := fnExactIsPossibleRow.holds Try.pinned (OpenSpec.ofChange fnExactIsPossibleWrong)

/-- 'laws.FnExactLeastTiles': WHATEVER THE INPUT: true; the input reads as it did. -/
def fnExactLeastTilesSpec : ChangeSpec := { name := "fnExactLeastTiles", fn := fun _ => fun
  | [d] => { results := [.lit (.bool true)], args := [d] }
  | _ => none }
def fnExactLeastTilesRow : OpenClaim := { program := "ytmdicfifhppjaaa", sum := "fecceee86ead5c49ec4878cfa39cba77a8627e63e210c8bb4efa5a87eca6a619", func := "loop.example/g01194/laws.FnExactLeastTiles", spec := "fnExactLeastTiles", apart := false }
def FnExactLeastTilesSaid : Prop := fnExactLeastTilesRow.holds Try.pinned (OpenSpec.ofChange fnExactLeastTilesSpec)

/-- ITS FALSE NEIGHBOUR: 'it returns false'. Refute it at one input. -/
def fnExactLeastTilesWrong : ChangeSpec := { name := "fnExactLeastTiles", fn := fun _ => fun
  | [d] => { results := [.lit (.bool false)], args := [d] }
  | _ => none }
def FnExactLeastTilesWrongFalsely : Prop := fnExactLeastTilesRow.holds Try.pinned (OpenSpec.ofChange fnExactLeastTilesWrong)

/-- 'laws.FnExactIsPackedBoard': WHATEVER THE INPUT: true; the input reads as it did. -/
def fnExactIsPackedBoardSpec : ChangeSpec := { name := "fnExactIsPackedBoard", fn := fun _ => fun
  | [d] => { results := [.lit (.bool true)], args := [d] }
  | _ => none }
def fnExactIsPackedBoardRow : OpenClaim := { program := "ytmdicfifhppjaaa", sum := "fecceee86ead5c49ec4878cfa39cba77a8627e63e210c8bb4efa5a87eca6a619", func := "loop.example/g01194/laws.FnExactIsPackedBoard", spec := "fnExactIsPackedBoard", unfollowed := true, recurses := true, apart := false }
def FnExactIsPackedBoardSaid : Prop := fnExactIsPackedBoardRow.holds Try.pinned (OpenSpec.ofChange fnExactIsPackedBoardSpec)

/-- ITS FALSE NEIGHBOUR: 'it returns false'. Refute it at one input. -/
def fnExactIsPackedBoardWrong : ChangeSpec := { name := "fnExactIsPackedBoard", fn := fun _ => fun
  | [d] => { results := [.lit (.bool false)], args := [d] }
  | _ => none }
def FnExactIsPackedBoardWrongFalsely : Prop := fnExactIsPackedBoardRow.holds Try.pinned (OpenSpec.ofChange fnExactIsPackedBoardWrong)

/-- 'laws.FnExactMovesBetween': WHATEVER THE INPUT: true; the input reads as it did. -/
def fnExactMovesBetweenSpec : ChangeSpec := { name := "fnExactMovesBetween", fn := fun _ => fun
  | [d1, d2] => { results := [.lit (.bool true)], args := [d1, d2] }
  | _ => none }
def fnExactMovesBetweenRow : OpenClaim := { program := "ytmdicfifhppjaaa", sum := "fecceee86ead5c49ec4878cfa39cba77a8627e63e210c8bb4efa5a87eca6a619", func := "loop.example/g01194/laws.FnExactMovesBetween", spec := "fnExactMovesBetween", unfollowed := true, recurses := true, apart := false }
def FnExactMovesBetweenSaid : Prop := fnExactMovesBetweenRow.holds Try.pinned (OpenSpec.ofChange fnExactMovesBetweenSpec)

/-- ITS FALSE NEIGHBOUR: 'it returns false'. Refute it at one input. -/
def fnExactMovesBetweenWrong : ChangeSpec := { name := "fnExactMovesBetween", fn := fun _ => fun
  | [d1, d2] => { results := [.lit (.bool false)], args := [d1, d2] }
  | _ => none }
def FnExactMovesBetweenWrongFalsely : Prop := fnExactMovesBetweenRow.holds Try.pinned (OpenSpec.ofChange fnExactMovesBetweenWrong)

/-- 'laws.FnExactHighestFor': WHATEVER THE INPUT: true; the input reads as it did. -/
def fnExactHighestForSpec : ChangeSpec := { name := "fnExactHighestFor", fn := fun _ => fun
  | [d] => { results := [.lit (.bool true)], args := [d] }
  | _ => none }
def fnExactHighestForRow : OpenClaim := { program := "ytmdicfifhppjaaa", sum := "fecceee86ead5c49ec4878cfa39cba77a8627e63e210c8bb4efa5a87eca6a619", func := "loop.example/g01194/laws.FnExactHighestFor", spec := "fnExactHighestFor", apart := false }
def FnExactHighestForSaid : Prop := fnExactHighestForRow.holds Try.pinned (OpenSpec.ofChange fnExactHighestForSpec)

/-- ITS FALSE NEIGHBOUR: 'it returns false'. Refute it at one input. -/
def fnExactHighestForWrong : ChangeSpec := { name := "fnExactHighestFor", fn := fun _ => fun
  | [d] => { results := [.lit (.bool false)], args := [d] }
  | _ => none }
def FnExactHighestForWrongFalsely : Prop := fnExactHighestForRow.holds Try.pinned (OpenSpec.ofChange fnExactHighestForWrong)

/-- 'laws.FnExactPlaceTile': WHATEVER THE INPUT: true; the input reads as it did. -/
def fnExactPlaceTileSpec : ChangeSpec := { name := "fnExactPlaceTile", fn := fun _ => fun
  | [d1, d2] => { results := [.lit (.bool true)], args := [d1, d2] }
  | _ => none }
def fnExactPlaceTileRow : OpenClaim := { program := "ytmdicfifhppjaaa", sum := "fecceee86ead5c49ec4878cfa39cba77a8627e63e210c8bb4efa5a87eca6a619", func := "loop.example/g01194/laws.FnExactPlaceTile", spec := "fnExactPlaceTile", unfollowed := true, recurses := true, apart := false }
def FnExactPlaceTileSaid : Prop := fnExactPlaceTileRow.holds Try.pinned (OpenSpec.ofChange fnExactPlaceTileSpec)

/-- ITS FALSE NEIGHBOUR: 'it returns false'. Refute it at one input. -/
def fnExactPlaceTileWrong : ChangeSpec := { name := "fnExactPlaceTile", fn := fun _ => fun
  | [d1, d2] => { results := [.lit (.bool false)], args := [d1, d2] }
  | _ => none }
def FnExactPlaceTileWrongFalsely : Prop := fnExactPlaceTileRow.holds Try.pinned (OpenSpec.ofChange fnExactPlaceTileWrong)

/-- 'laws.FnExactPotentialOf': WHATEVER THE INPUT: true; the input reads as it did. -/
def fnExactPotentialOfSpec : ChangeSpec := { name := "fnExactPotentialOf", fn := fun _ => fun
  | [d] => { results := [.lit (.bool true)], args := [d] }
  | _ => none }
def fnExactPotentialOfRow : OpenClaim := { program := "ytmdicfifhppjaaa", sum := "fecceee86ead5c49ec4878cfa39cba77a8627e63e210c8bb4efa5a87eca6a619", func := "loop.example/g01194/laws.FnExactPotentialOf", spec := "fnExactPotentialOf", unfollowed := true, recurses := true, apart := false }
def FnExactPotentialOfSaid : Prop := fnExactPotentialOfRow.holds Try.pinned (OpenSpec.ofChange fnExactPotentialOfSpec)

/-- ITS FALSE NEIGHBOUR: 'it returns false'. Refute it at one input. -/
def fnExactPotentialOfWrong : ChangeSpec := { name := "fnExactPotentialOf", fn := fun _ => fun
  | [d] => { results := [.lit (.bool false)], args := [d] }
  | _ => none }
def FnExactPotentialOfWrongFalsely : Prop := fnExactPotentialOfRow.holds Try.pinned (OpenSpec.ofChange fnExactPotentialOfWrong)

/-- 'laws.FnExactScoreBetween': WHATEVER THE INPUT: true; the input reads as it did. -/
def fnExactScoreBetweenSpec : ChangeSpec := { name := "fnExactScoreBetween", fn := fun _ => fun
  | [d1, d2, d3] => { results := [.lit (.bool true)], args := [d1, d2, d3] }
  | _ => none }
def fnExactScoreBetweenRow : OpenClaim := { program := "ytmdicfifhppjaaa", sum := "fecceee86ead5c49ec4878cfa39cba77a8627e63e210c8bb4efa5a87eca6a619", func := "loop.example/g01194/laws.FnExactScoreBetween", spec := "fnExactScoreBetween", unfollowed := true, recurses := true, apart := false }
def FnExactScoreBetweenSaid : Prop := fnExactScoreBetweenRow.holds Try.pinned (OpenSpec.ofChange fnExactScoreBetweenSpec)

/-- ITS FALSE NEIGHBOUR: 'it returns false'. Refute it at one input. -/
def fnExactScoreBetweenWrong : ChangeSpec := { name := "fnExactScoreBetween", fn := fun _ => fun
  | [d1, d2, d3] => { results := [.lit (.bool false)], args := [d1, d2, d3] }
  | _ => none }
def FnExactScoreBetweenWrongFalsely : Prop := fnExactScoreBetweenRow.holds Try.pinned (OpenSpec.ofChange fnExactScoreBetweenWrong)

/-- 'laws.FnExactMeanSum': WHATEVER THE INPUT: true; the input reads as it did. -/
def fnExactMeanSumSpec : ChangeSpec := { name := "fnExactMeanSum", fn := fun _ => fun
  | [d1, d2] => { results := [.lit (.bool true)], args := [d1, d2] }
  | _ => none }
def fnExactMeanSumRow : OpenClaim := { program := "ytmdicfifhppjaaa", sum := "fecceee86ead5c49ec4878cfa39cba77a8627e63e210c8bb4efa5a87eca6a619", func := "loop.example/g01194/laws.FnExactMeanSum", spec := "fnExactMeanSum", unfollowed := true, recurses := true, apart := false }
def FnExactMeanSumSaid : Prop := fnExactMeanSumRow.holds Try.pinned (OpenSpec.ofChange fnExactMeanSumSpec)

/-- ITS FALSE NEIGHBOUR: 'it returns false'. Refute it at one input. -/
def fnExactMeanSumWrong : ChangeSpec := { name := "fnExactMeanSum", fn := fun _ => fun
  | [d1, d2] => { results := [.lit (.bool false)], args := [d1, d2] }
  | _ => none }
def FnExactMeanSumWrongFalsely : Prop := fnExactMeanSumRow.holds Try.pinned (OpenSpec.ofChange fnExactMeanSumWrong)

/-- 'laws.FnExactPlacementsOf': WHATEVER THE INPUT: true; the input reads as it did. -/
def fnExactPlacementsOfSpec : ChangeSpec := { name := "fnExactPlacementsOf", fn := fun _ => fun
  | [d] => { results := [.lit (.bool true)], args := [d] }
  | _ => none }
def fnExactPlacementsOfRow : OpenClaim := { program := "ytmdicfifhppjaaa", sum := "fecceee86ead5c49ec4878cfa39cba77a8627e63e210c8bb4efa5a87eca6a619", func := "loop.example/g01194/laws.FnExactPlacementsOf", spec := "fnExactPlacementsOf", unfollowed := true, recurses := true, apart := false }
def FnExactPlacementsOfSaid : Prop := fnExactPlacementsOfRow.holds Try.pinned (OpenSpec.ofChange fnExactPlacementsOfSpec)

/-- ITS FALSE NEIGHBOUR: 'it returns false'. Refute it at one input. -/
def fnExactPlacementsOfWrong : ChangeSpec := { name := "fnExactPlacementsOf", fn := fun _ => fun
  | [d] => { results := [.lit (.bool false)], args := [d] }
  | _ => none }
def FnExactPlacementsOfWrongFalsely : Prop := fnExactPlacementsOfRow.holds Try.pinned (OpenSpec.ofChange fnExactPlacementsOfWrong)

/-- 'laws.FnExactPackedBoard': WHATEVER THE INPUT: true; the input reads as it did. -/
def fnExactPackedBoardSpec : ChangeSpec := { name := "fnExactPackedBoard", fn := fun _ => fun
  | [d] => { results := [.lit (.bool true)], args := [d] }
  | _ => none }
def fnExactPackedBoardRow : OpenClaim := { program := "ytmdicfifhppjaaa", sum := "fecceee86ead5c49ec4878cfa39cba77a8627e63e210c8bb4efa5a87eca6a619", func := "loop.example/g01194/laws.FnExactPackedBoard", spec := "fnExactPackedBoard", apart := false }
def FnExactPackedBoardSaid : Prop := fnExactPackedBoardRow.holds Try.pinned (OpenSpec.ofChange fnExactPackedBoardSpec)

/-- ITS FALSE NEIGHBOUR: 'it returns false'. Refute it at one input. -/
def fnExactPackedBoardWrong : ChangeSpec := { name := "fnExactPackedBoard", fn := fun _ => fun
  | [d] => { results := [.lit (.bool false)], args := [d] }
  | _ => none }
def FnExactPackedBoardWrongFalsely : Prop := fnExactPackedBoardRow.holds Try.pinned (OpenSpec.ofChange fnExactPackedBoardWrong)

/-- 'laws.FnExactMergersLeft': WHATEVER THE INPUT: true; the input reads as it did. -/
def fnExactMergersLeftSpec : ChangeSpec := { name := "fnExactMergersLeft", fn := fun _ => fun
  | [d] => { results := [.lit (.bool true)], args := [d] }
  | _ => none }
def fnExactMergersLeftRow : OpenClaim := { program := "ytmdicfifhppjaaa", sum := "fecceee86ead5c49ec4878cfa39cba77a8627e63e210c8bb4efa5a87eca6a619", func := "loop.example/g01194/laws.FnExactMergersLeft", spec := "fnExactMergersLeft", unfollowed := true, recurses := true, apart := false }
def FnExactMergersLeftSaid : Prop := fnExactMergersLeftRow.holds Try.pinned (OpenSpec.ofChange fnExactMergersLeftSpec)

/-- ITS FALSE NEIGHBOUR: 'it returns false'. Refute it at one input. -/
def fnExactMergersLeftWrong : ChangeSpec := { name := "fnExactMergersLeft", fn := fun _ => fun
  | [d] => { results := [.lit (.bool false)], args := [d] }
  | _ => none }
def FnExactMergersLeftWrongFalsely : Prop := fnExactMergersLeftRow.holds Try.pinned (OpenSpec.ofChange fnExactMergersLeftWrong)

/-- 'laws.FnExactSnakesOf': WHATEVER THE INPUT: true; the input reads as it did. -/
def fnExactSnakesOfSpec : ChangeSpec := { name := "fnExactSnakesOf", fn := fun _ => fun
  | [d] => { results := [.lit (.bool true)], args := [d] }
  | _ => none }
def fnExactSnakesOfRow : OpenClaim := { program := "ytmdicfifhppjaaa", sum := "fecceee86ead5c49ec4878cfa39cba77a8627e63e210c8bb4efa5a87eca6a619", func := "loop.example/g01194/laws.FnExactSnakesOf", spec := "fnExactSnakesOf", unfollowed := true, recurses := true, apart := false }
def FnExactSnakesOfSaid : Prop := fnExactSnakesOfRow.holds Try.pinned (OpenSpec.ofChange fnExactSnakesOfSpec)

/-- ITS FALSE NEIGHBOUR: 'it returns false'. Refute it at one input. -/
def fnExactSnakesOfWrong : ChangeSpec := { name := "fnExactSnakesOf", fn := fun _ => fun
  | [d] => { results := [.lit (.bool false)], args := [d] }
  | _ => none }
def FnExactSnakesOfWrongFalsely : Prop := fnExactSnakesOfRow.holds Try.pinned (OpenSpec.ofChange fnExactSnakesOfWrong)

/- THE SECOND FORM. 'bulk': how many values and letters a reading holds, each counted each time it is reached (what is shared counts as often as it is met; a slice's spare places count too). A statement '..UptoSaid' is the law's where the arguments, and the package variables that the reading takes, are together of bulk at most 1048576: NARROWER than '..Said'. Prove '..Said' where nothing that the law and all that it calls make is longer than what came in: it says more and counts as full. Else prove '..UptoSaid'. A law counts once. -/
mutual
def uptoBulk {H : Type} : DataW H → Nat
  | .lit (.string bytes) => bytes.length + 1
  | .lit _ => 1
  | .nil => 1
  | .ptr d => uptoBulk d + 1
  | .slice elems spare => uptoBulkAll elems + uptoBulkAll spare + 1
  | .agg parts => uptoBulkAll parts + 1
  | .iface _ d => uptoBulk d + 1
  | .map entries => uptoBulkEntries entries + 1
  | .held _ => 1
def uptoBulkAll {H : Type} : List (DataW H) → Nat
  | [] => 0
  | d :: r => uptoBulk d + uptoBulkAll r
def uptoBulkEntries {H : Type} : List (Lit × DataW H) → Nat
  | [] => 0
  | x :: r => uptoBulkEntry x + uptoBulkEntries r
def uptoBulkEntry {H : Type} : Lit × DataW H → Nat
  | (.string bytes, d) => bytes.length + uptoBulk d + 1
  | (_, d) => uptoBulk d + 1
 end
def uptoSmall : (H : Type) → List (DataW H) → Bool := fun _ ds => decide (uptoBulkAll ds ≤ 1048576)
def OpenSpec.upto (s : _root_.Go.ChangeSpec) : _root_.Go.OpenSpec := { _root_.Go.OpenSpec.ofChange s with cond := some uptoSmall }

/-- 'laws.FnExactIsPossible', WHERE WHAT IT READS IS OF BULK AT MOST 1048576: true; the input reads as it did. -/
def fnExactIsPossibleUptoRow : OpenClaim := { program := "ytmdicfifhppjaaa", sum := "fecceee86ead5c49ec4878cfa39cba77a8627e63e210c8bb4efa5a87eca6a619", func := "loop.example/g01194/laws.FnExactIsPossible", spec := "fnExactIsPossible", apart := false, narrowed := true }
def FnExactIsPossibleUptoSaid : Prop := fnExactIsPossibleUptoRow.holds Try.pinned (OpenSpec.upto fnExactIsPossibleSpec)

/-- 'laws.FnExactLeastTiles', WHERE WHAT IT READS IS OF BULK AT MOST 1048576: true; the input reads as it did. -/
def fnExactLeastTilesUptoRow : OpenClaim := { program := "ytmdicfifhppjaaa", sum := "fecceee86ead5c49ec4878cfa39cba77a8627e63e210c8bb4efa5a87eca6a619", func := "loop.example/g01194/laws.FnExactLeastTiles", spec := "fnExactLeastTiles", apart := false, narrowed := true }
def FnExactLeastTilesUptoSaid : Prop := fnExactLeastTilesUptoRow.holds Try.pinned (OpenSpec.upto fnExactLeastTilesSpec)

/-- 'laws.FnExactIsPackedBoard', WHERE WHAT IT READS IS OF BULK AT MOST 1048576: true; the input reads as it did. -/
def fnExactIsPackedBoardUptoRow : OpenClaim := { program := "ytmdicfifhppjaaa", sum := "fecceee86ead5c49ec4878cfa39cba77a8627e63e210c8bb4efa5a87eca6a619", func := "loop.example/g01194/laws.FnExactIsPackedBoard", spec := "fnExactIsPackedBoard", unfollowed := true, recurses := true, apart := false, narrowed := true }
def FnExactIsPackedBoardUptoSaid : Prop := fnExactIsPackedBoardUptoRow.holds Try.pinned (OpenSpec.upto fnExactIsPackedBoardSpec)

/-- 'laws.FnExactMovesBetween', WHERE WHAT IT READS IS OF BULK AT MOST 1048576: true; the input reads as it did. -/
def fnExactMovesBetweenUptoRow : OpenClaim := { program := "ytmdicfifhppjaaa", sum := "fecceee86ead5c49ec4878cfa39cba77a8627e63e210c8bb4efa5a87eca6a619", func := "loop.example/g01194/laws.FnExactMovesBetween", spec := "fnExactMovesBetween", unfollowed := true, recurses := true, apart := false, narrowed := true }
def FnExactMovesBetweenUptoSaid : Prop := fnExactMovesBetweenUptoRow.holds Try.pinned (OpenSpec.upto fnExactMovesBetweenSpec)

/-- 'laws.FnExactHighestFor', WHERE WHAT IT READS IS OF BULK AT MOST 1048576: true; the input reads as it did. -/
def fnExactHighestForUptoRow : OpenClaim := { program := "ytmdicfifhppjaaa", sum := "fecceee86ead5c49ec4878cfa39cba77a8627e63e210c8bb4efa5a87eca6a619", func := "loop.example/g01194/laws.FnExactHighestFor", spec := "fnExactHighestFor", apart := false, narrowed := true }
def FnExactHighestForUptoSaid : Prop := fnExactHighestForUptoRow.holds Try.pinned (OpenSpec.upto fnExactHighestForSpec)

/-- 'laws.FnExactPlaceTile', WHERE WHAT IT READS IS OF BULK AT MOST 1048576: true; the input reads as it did. -/
def fnExactPlaceTileUptoRow : OpenClaim := { program := "ytmdicfifhppjaaa", sum := "fecceee86ead5c49ec4878cfa39cba77a8627e63e210c8bb4efa5a87eca6a619", func := "loop.example/g01194/laws.FnExactPlaceTile", spec := "fnExactPlaceTile", unfollowed := true, recurses := true, apart := false, narrowed := true }
def FnExactPlaceTileUptoSaid : Prop := fnExactPlaceTileUptoRow.holds Try.pinned (OpenSpec.upto fnExactPlaceTileSpec)

/-- 'laws.FnExactPotentialOf', WHERE WHAT IT READS IS OF BULK AT MOST 1048576: true; the input reads as it did. -/
def fnExactPotentialOfUptoRow : OpenClaim := { program := "ytmdicfifhppjaaa", sum := "fecceee86ead5c49ec4878cfa39cba77a8627e63e210c8bb4efa5a87eca6a619", func := "loop.example/g01194/laws.FnExactPotentialOf", spec := "fnExactPotentialOf", unfollowed := true, recurses := true, apart := false, narrowed := true }
def FnExactPotentialOfUptoSaid : Prop := fnExactPotentialOfUptoRow.holds Try.pinned (OpenSpec.upto fnExactPotentialOfSpec)

/-- 'laws.FnExactScoreBetween', WHERE WHAT IT READS IS OF BULK AT MOST 1048576: true; the input reads as it did. -/
def fnExactScoreBetweenUptoRow : OpenClaim := { program := "ytmdicfifhppjaaa", sum := "fecceee86ead5c49ec4878cfa39cba77a8627e63e210c8bb4efa5a87eca6a619", func := "loop.example/g01194/laws.FnExactScoreBetween", spec := "fnExactScoreBetween", unfollowed := true, recurses := true, apart := false, narrowed := true }
def FnExactScoreBetweenUptoSaid : Prop := fnExactScoreBetweenUptoRow.holds Try.pinned (OpenSpec.upto fnExactScoreBetweenSpec)

/-- 'laws.FnExactMeanSum', WHERE WHAT IT READS IS OF BULK AT MOST 1048576: true; the input reads as it did. -/
def fnExactMeanSumUptoRow : OpenClaim := { program := "ytmdicfifhppjaaa", sum := "fecceee86ead5c49ec4878cfa39cba77a8627e63e210c8bb4efa5a87eca6a619", func := "loop.example/g01194/laws.FnExactMeanSum", spec := "fnExactMeanSum", unfollowed := true, recurses := true, apart := false, narrowed := true }
def FnExactMeanSumUptoSaid : Prop := fnExactMeanSumUptoRow.holds Try.pinned (OpenSpec.upto fnExactMeanSumSpec)

/-- 'laws.FnExactPlacementsOf', WHERE WHAT IT READS IS OF BULK AT MOST 1048576: true; the input reads as it did. -/
def fnExactPlacementsOfUptoRow : OpenClaim := { program := "ytmdicfifhppjaaa", sum := "fecceee86ead5c49ec4878cfa39cba77a8627e63e210c8bb4efa5a87eca6a619", func := "loop.example/g01194/laws.FnExactPlacementsOf", spec := "fnExactPlacementsOf", unfollowed := true, recurses := true, apart := false, narrowed := true }
def FnExactPlacementsOfUptoSaid : Prop := fnExactPlacementsOfUptoRow.holds Try.pinned (OpenSpec.upto fnExactPlacementsOfSpec)

/-- 'laws.FnExactPackedBoard', WHERE WHAT IT READS IS OF BULK AT MOST 1048576: true; the input reads as it did. -/
def fnExactPackedBoardUptoRow : OpenClaim := { program := "ytmdicfifhppjaaa", sum := "fecceee86ead5c49ec4878cfa39cba77a8627e63e210c8bb4efa5a87eca6a619", func := "loop.example/g01194/laws.FnExactPackedBoard", spec := "fnExactPackedBoard", apart := false, narrowed := true }
def FnExactPackedBoardUptoSaid : Prop := fnExactPackedBoardUptoRow.holds Try.pinned (OpenSpec.upto fnExactPackedBoardSpec)

/-- 'laws.FnExactMergersLeft', WHERE WHAT IT READS IS OF BULK AT MOST 1048576: true; the input reads as it did. -/
def fnExactMergersLeftUptoRow : OpenClaim := { program := "ytmdicfifhppjaaa", sum := "fecceee86ead5c49ec4878cfa39cba77a8627e63e210c8bb4efa5a87eca6a619", func := "loop.example/g01194/laws.FnExactMergersLeft", spec := "fnExactMergersLeft", unfollowed := true, recurses := true, apart := false, narrowed := true }
def FnExactMergersLeftUptoSaid : Prop := fnExactMergersLeftUptoRow.holds Try.pinned (OpenSpec.upto fnExactMergersLeftSpec)

/-- 'laws.FnExactSnakesOf', WHERE WHAT IT READS IS OF BULK AT MOST 1048576: true; the input reads as it did. -/
def fnExactSnakesOfUptoRow : OpenClaim := { program := "ytmdicfifhppjaaa", sum := "fecceee86ead5c49ec4878cfa39cba77a8627e63e210c8bb4efa5a87eca6a619", func := "loop.example/g01194/laws.FnExactSnakesOf", spec := "fnExactSnakesOf", unfollowed := true, recurses := true, apart := false, narrowed := true }
def FnExactSnakesOfUptoSaid : Prop := fnExactSnakesOfUptoRow.holds Try.pinned (OpenSpec.upto fnExactSnakesOfSpec)

end Rows
end Go.Proofs.Ytmdicfifhppjaaa
