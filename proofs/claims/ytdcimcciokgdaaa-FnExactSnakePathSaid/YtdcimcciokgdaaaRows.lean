/-
  No cell of these rows narrows 'for every input' (looked for: loops, veiled, ifaces, maps, wideKeys, modest, calm, conditions, laid).
  DERIVED. THE GIVEN ROWS OF THIS SEAT. 5 by the template 'for every input the law returns true; each argument reads behind the call as it read before'; 0 by the template 'total and deterministic' (their statements: YtdcimcciokgdaaaTotals.lean).
  GIVEN WITH THE SEED: the statements are not yours to turn. If you find one false, say at which input.
  Laid BY PROGRAM, IN A SANDBOX (cutbox-rows.mjs): the forced cells as the released guide's own fill.sh prints them over the translation 7e6bd14252d2e178… (all of the seat's roots in one cut). By AI agents, Wed Nov 11 2026. No macro, syntax, notation, axiom, sorry.
-/
import Derived.Test.YtdcimcciokgdaaaChecked
import GoSem.Claim
import GoSem.ClaimJoined
import GoSem.ClaimMapViews
import Derived.JoinedTies
import Derived.KernelRfl
namespace Go.Proofs.Ytdcimcciokgdaaa
/- THE CELL 'sum', in the pinned program and in every row, IS THE sha256 OF THE DUMP (.gsa) THAT YtdcimcciokgdaaaProg.lean LOADS. Nothing in Lean hashes anything: it is a label: what it is worth is what the hold of that sum in a sandbox is worth. -/
noncomputable def Try.pinned : Pinned := { name := "ytdcimcciokgdaaa", sum := "7e6bd14252d2e178b2c436f49a009499f02f083dddb1f1e808b04f56fc3d1a4f", checked := Try.checked }
namespace Rows
def none {H : Type} : Left H := { results := [], args := [] }

/-- 'laws.FnExactIsPossible': WHATEVER THE INPUT: true; the input reads as it did. -/
def fnExactIsPossibleSpec : ChangeSpec := { name := "fnExactIsPossible", fn := fun _ => fun
  | [d1, d2] => { results := [.lit (.bool true)], args := [d1, d2] }
  | _ => none }
def fnExactIsPossibleRow : OpenClaim := { program := "ytdcimcciokgdaaa", sum := "7e6bd14252d2e178b2c436f49a009499f02f083dddb1f1e808b04f56fc3d1a4f", func := "loop.example/g01194/laws.FnExactIsPossible", spec := "fnExactIsPossible", apart := false }
def FnExactIsPossibleSaid : Prop := fnExactIsPossibleRow.holds Try.pinned (OpenSpec.ofChange fnExactIsPossibleSpec)

/-- ITS FALSE NEIGHBOUR: 'it returns false'. Refute it at one input. -/
def fnExactIsPossibleWrong : ChangeSpec := { name := "fnExactIsPossible", fn := fun _ => fun
  | [d1, d2] => { results := [.lit (.bool false)], args := [d1, d2] }
  | _ => none }
def FnExactIsPossibleWrongFalsely : Prop := fnExactIsPossibleRow.holds Try.pinned (OpenSpec.ofChange fnExactIsPossibleWrong)

/-- 'laws.FnExactLeastTiles': WHATEVER THE INPUT: true; the input reads as it did. -/
def fnExactLeastTilesSpec : ChangeSpec := { name := "fnExactLeastTiles", fn := fun _ => fun
  | [d] => { results := [.lit (.bool true)], args := [d] }
  | _ => none }
def fnExactLeastTilesRow : OpenClaim := { program := "ytdcimcciokgdaaa", sum := "7e6bd14252d2e178b2c436f49a009499f02f083dddb1f1e808b04f56fc3d1a4f", func := "loop.example/g01194/laws.FnExactLeastTiles", spec := "fnExactLeastTiles", apart := false }
def FnExactLeastTilesSaid : Prop := fnExactLeastTilesRow.holds Try.pinned (OpenSpec.ofChange fnExactLeastTilesSpec)

/-- ITS FALSE NEIGHBOUR: 'it returns false'. Refute it at one input. -/
def fnExactLeastTilesWrong : ChangeSpec := { name := "fnExactLeastTiles", fn := fun _ => fun
  | [d] => { results := [.lit (.bool false)], args := [d] }
  | _ => none }
def FnExactLeastTilesWrongFalsely : Prop := fnExactLeastTilesRow.holds Try.pinned (OpenSpec.ofChange fnExactLeastTilesWrong)

/-- 'laws.FnExactIsPackedBoard': WHATEVER THE INPUT: true; the input reads as it did. -/
def fnExactIsPackedBoardSpec : ChangeSpec := { name := "fnExactIsPackedBoard", fn := fun _ => fun
  | [d] => { results := [.lit (.bool true)], args := [d] }
  | _ => none }
def fnExactIsPackedBoardRow : OpenClaim := { program := "ytdcimcciokgdaaa", sum := "7e6bd14252d2e178b2c436f49a009499f02f083dddb1f1e808b04f56fc3d1a4f", func := "loop.example/g01194/laws.FnExactIsPackedBoard", spec := "fnExactIsPackedBoard", unfollowed := true, recurses := true, apart := false }
def FnExactIsPackedBoardSaid : Prop := fnExactIsPackedBoardRow.holds Try.pinned (OpenSpec.ofChange fnExactIsPackedBoardSpec)

/-- ITS FALSE NEIGHBOUR: 'it returns false'. Refute it at one input. -/
def fnExactIsPackedBoardWrong : ChangeSpec := { name := "fnExactIsPackedBoard", fn := fun _ => fun
  | [d] => { results := [.lit (.bool false)], args := [d] }
  | _ => none }
def FnExactIsPackedBoardWrongFalsely : Prop := fnExactIsPackedBoardRow.holds Try.pinned (OpenSpec.ofChange fnExactIsPackedBoardWrong)

/-- 'laws.FnExactMovesBetween': WHATEVER THE INPUT: true; the input reads as it did. -/
def fnExactMovesBetweenSpec : ChangeSpec := { name := "fnExactMovesBetween", fn := fun _ => fun
  | [d1, d2] => { results := [.lit (.bool true)], args := [d1, d2] }
  | _ => none }
def fnExactMovesBetweenRow : OpenClaim := { program := "ytdcimcciokgdaaa", sum := "7e6bd14252d2e178b2c436f49a009499f02f083dddb1f1e808b04f56fc3d1a4f", func := "loop.example/g01194/laws.FnExactMovesBetween", spec := "fnExactMovesBetween", unfollowed := true, recurses := true, apart := false }
def FnExactMovesBetweenSaid : Prop := fnExactMovesBetweenRow.holds Try.pinned (OpenSpec.ofChange fnExactMovesBetweenSpec)

/-- ITS FALSE NEIGHBOUR: 'it returns false'. Refute it at one input. -/
def fnExactMovesBetweenWrong : ChangeSpec := { name := "fnExactMovesBetween", fn := fun _ => fun
  | [d1, d2] => { results := [.lit (.bool false)], args := [d1, d2] }
  | _ => none }
def FnExactMovesBetweenWrongFalsely : Prop := fnExactMovesBetweenRow.holds Try.pinned (OpenSpec.ofChange fnExactMovesBetweenWrong)

/-- 'laws.FnExactSnakePath': WHATEVER THE INPUT: true; the input reads as it did. -/
def fnExactSnakePathSpec : ChangeSpec := { name := "fnExactSnakePath", fn := fun _ => fun
  | [d] => { results := [.lit (.bool true)], args := [d] }
  | _ => none }
def fnExactSnakePathRow : OpenClaim := { program := "ytdcimcciokgdaaa", sum := "7e6bd14252d2e178b2c436f49a009499f02f083dddb1f1e808b04f56fc3d1a4f", func := "loop.example/g01194/laws.FnExactSnakePath", spec := "fnExactSnakePath", apart := false }
def FnExactSnakePathSaid : Prop := fnExactSnakePathRow.holds Try.pinned (OpenSpec.ofChange fnExactSnakePathSpec)

/-- ITS FALSE NEIGHBOUR: 'it returns false'. Refute it at one input. -/
def fnExactSnakePathWrong : ChangeSpec := { name := "fnExactSnakePath", fn := fun _ => fun
  | [d] => { results := [.lit (.bool false)], args := [d] }
  | _ => none }
def FnExactSnakePathWrongFalsely : Prop := fnExactSnakePathRow.holds Try.pinned (OpenSpec.ofChange fnExactSnakePathWrong)

/- THE SECOND FORM. 'bulk': how many values and letters a reading holds, each counted each time it is reached (what is shared counts as often as it is met; a slice's spare places count too). A statement '..UptoSaid' is the law's where the arguments, and the package variables that the reading takes, are together of bulk at most 1048576: NARROWER than '..Said'. Prove '..Said' where nothing that the law and all that it calls make is longer than what came in: it says more and counts as full. Else prove '..UptoSaid'. A law counts once. -/
mutual
def uptoBulk {H : Type} : DataW H → Nat
  | .lit (.string bytes) => bytes.length + 1
  | .lit _ => 1
  | .nil => 1
  | .ptr d => uptoBulk d + 1
  | .slice elems spare => uptoBulkAll elems + uptoBulkAll spare + 1
  | .agg parts => uptoBulkAll parts + 1
  | .iface _ d => uptoBulk d + 1
  | .map entries => uptoBulkEntries entries + 1
  | .held _ => 1
def uptoBulkAll {H : Type} : List (DataW H) → Nat
  | [] => 0
  | d :: r => uptoBulk d + uptoBulkAll r
def uptoBulkEntries {H : Type} : List (Lit × DataW H) → Nat
  | [] => 0
  | x :: r => uptoBulkEntry x + uptoBulkEntries r
def uptoBulkEntry {H : Type} : Lit × DataW H → Nat
  | (.string bytes, d) => bytes.length + uptoBulk d + 1
  | (_, d) => uptoBulk d + 1
 end
def uptoSmall : (H : Type) → List (DataW H) → Bool := fun _ ds => decide (uptoBulkAll ds ≤ 1048576)
def OpenSpec.upto (s : _root_.Go.ChangeSpec) : _root_.Go.OpenSpec := { _root_.Go.OpenSpec.ofChange s with cond := some uptoSmall }

/-- 'laws.FnExactIsPossible', WHERE WHAT IT READS IS OF BULK AT MOST 1048576: true; the input reads as it did. -/
def fnExactIsPossibleUptoRow : OpenClaim := { program := "ytdcimcciokgdaaa", sum := "7e6bd14252d2e178b2c436f49a009499f02f083dddb1f1e808b04f56fc3d1a4f", func := "loop.example/g01194/laws.FnExactIsPossible", spec := "fnExactIsPossible", apart := false, narrowed := true }
def FnExactIsPossibleUptoSaid : Prop := fnExactIsPossibleUptoRow.holds Try.pinned (OpenSpec.upto fnExactIsPossibleSpec)

/-- 'laws.FnExactLeastTiles', WHERE WHAT IT READS IS OF BULK AT MOST 1048576: true; the input reads as it did. -/
def fnExactLeastTilesUptoRow : OpenClaim := { program := "ytdcimcciokgdaaa", sum := "7e6bd14252d2e178b2c436f49a009499f02f083dddb1f1e808b04f56fc3d1a4f", func := "loop.example/g01194/laws.FnExactLeastTiles", spec := "fnExactLeastTiles", apart := false, narrowed := true }
def FnExactLeastTilesUptoSaid : Prop := fnExactLeastTilesUptoRow.holds Try.pinned (OpenSpec.upto fnExactLeastTilesSpec)

/-- 'laws.FnExactIsPackedBoard', WHERE WHAT IT READS IS OF BULK AT MOST 1048576: true; the input reads as it did. -/
def fnExactIsPackedBoardUptoRow : OpenClaim := { program := "ytdcimcciokgdaaa", sum := "7e6bd14252d2e178b2c436f49a009499f02f083dddb1f1e808b04f56fc3d1a4f", func := "loop.example/g01194/laws.FnExactIsPackedBoard", spec := "fnExactIsPackedBoard", unfollowed := true, recurses := true, apart := false, narrowed := true }
def FnExactIsPackedBoardUptoSaid : Prop := fnExactIsPackedBoardUptoRow.holds Try.pinned (OpenSpec.upto fnExactIsPackedBoardSpec)

/-- 'laws.FnExactMovesBetween', WHERE WHAT IT READS IS OF BULK AT MOST 1048576: true; the input reads as it did. -/
def fnExactMovesBetweenUptoRow : OpenClaim := { program := "ytdcimcciokgdaaa", sum := "7e6bd14252d2e178b2c436f49a009499f02f083dddb1f1e808b04f56fc3d1a4f", func := "loop.example/g01194/laws.FnExactMovesBetween", spec := "fnExactMovesBetween", unfollowed := true, recurses := true, apart := false, narrowed := true }
def FnExactMovesBetweenUptoSaid : Prop := fnExactMovesBetweenUptoRow.holds Try.pinned (OpenSpec.upto fnExactMovesBetweenSpec)

/-- 'laws.FnExactSnakePath', WHERE WHAT IT READS IS OF BULK AT MOST 1048576: true; the input reads as it did. -/
def fnExactSnakePathUptoRow : OpenClaim := { program := "ytdcimcciokgdaaa", sum := "7e6bd14252d2e178b2c436f49a009499f02f083dddb1f1e808b04f56fc3d1a4f", func := "loop.example/g01194/laws.FnExactSnakePath", spec := "fnExactSnakePath", apart := false, narrowed := true }
def FnExactSnakePathUptoSaid : Prop := fnExactSnakePathUptoRow.holds Try.pinned (OpenSpec.upto fnExactSnakePathSpec)

end Rows
end Go.Proofs.Ytdcimcciokgdaaa
