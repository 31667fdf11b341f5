/-
  No cell of these rows narrows 'for every input' (looked for: loops, veiled, ifaces, maps, wideKeys, modest, calm, conditions, laid).
  DERIVED. THE GIVEN ROWS OF THIS SEAT. 7 by the template 'for every input the law returns true; each argument reads behind the call as it read before'; 0 by the template 'total and deterministic' (their statements: YtidmlibanopfhaaTotals.lean).
  GIVEN WITH THE SEED: the statements are not yours to turn. If you find one false, say at which input.
  Laid BY PROGRAM, IN A SANDBOX (cutbox-rows.mjs): the forced cells as the released guide's own fill.sh prints them over the translation 2d15c4ead8e92e95… (all of the seat's roots in one cut). By AI agents, Wed Nov 11 2026. No macro, syntax, notation, axiom, sorry.
-/
import Derived.Test.YtidmlibanopfhaaChecked
import GoSem.Claim
import GoSem.ClaimJoined
import GoSem.ClaimMapViews
import Derived.JoinedTies
import Derived.KernelRfl
namespace Go.Proofs.Ytidmlibanopfhaa
/- THE CELL 'sum', in the pinned program and in every row, IS THE sha256 OF THE DUMP (.gsa) THAT YtidmlibanopfhaaProg.lean LOADS. Nothing in Lean hashes anything: it is a label: what it is worth is what the hold of that sum in a sandbox is worth. -/
noncomputable def Try.pinned : Pinned := { name := "ytidmlibanopfhaa", sum := "2d15c4ead8e92e95715beb0b9b1794de433e799d86a6150637807c130697cf51", checked := Try.checked }
namespace Rows
def none {H : Type} : Left H := { results := [], args := [] }

/-- 'laws.FnExactSureScore': WHATEVER THE INPUT: true; the input reads as it did. -/
def fnExactSureScoreSpec : ChangeSpec := { name := "fnExactSureScore", fn := fun _ => fun
  | [d1, d2] => { results := [.lit (.bool true)], args := [d1, d2] }
  | _ => none }
def fnExactSureScoreRow : OpenClaim := { program := "ytidmlibanopfhaa", sum := "2d15c4ead8e92e95715beb0b9b1794de433e799d86a6150637807c130697cf51", func := "loop.example/g01194/laws.FnExactSureScore", spec := "fnExactSureScore", unfollowed := true, recurses := true, apart := false }
def FnExactSureScoreSaid : Prop := fnExactSureScoreRow.holds Try.pinned (OpenSpec.ofChange fnExactSureScoreSpec)

/-- ITS FALSE NEIGHBOUR: 'it returns false'. Refute it at one input. -/
def fnExactSureScoreWrong : ChangeSpec := { name := "fnExactSureScore", fn := fun _ => fun
  | [d1, d2] => { results := [.lit (.bool false)], args := [d1, d2] }
  | _ => none }
def FnExactSureScoreWrongFalsely : Prop := fnExactSureScoreRow.holds Try.pinned (OpenSpec.ofChange fnExactSureScoreWrong)

/-- 'laws.FnExactLasts': WHATEVER THE INPUT: true; the input reads as it did. -/
def fnExactLastsSpec : ChangeSpec := { name := "fnExactLasts", fn := fun _ => fun
  | [d1, d2] => { results := [.lit (.bool true)], args := [d1, d2] }
  | _ => none }
def fnExactLastsRow : OpenClaim := { program := "ytidmlibanopfhaa", sum := "2d15c4ead8e92e95715beb0b9b1794de433e799d86a6150637807c130697cf51", func := "loop.example/g01194/laws.FnExactLasts", spec := "fnExactLasts", unfollowed := true, recurses := true, apart := false }
def FnExactLastsSaid : Prop := fnExactLastsRow.holds Try.pinned (OpenSpec.ofChange fnExactLastsSpec)

/-- ITS FALSE NEIGHBOUR: 'it returns false'. Refute it at one input. -/
def fnExactLastsWrong : ChangeSpec := { name := "fnExactLasts", fn := fun _ => fun
  | [d1, d2] => { results := [.lit (.bool false)], args := [d1, d2] }
  | _ => none }
def FnExactLastsWrongFalsely : Prop := fnExactLastsRow.holds Try.pinned (OpenSpec.ofChange fnExactLastsWrong)

/-- 'laws.FnExactBestSure': WHATEVER THE INPUT: true; the input reads as it did. -/
def fnExactBestSureSpec : ChangeSpec := { name := "fnExactBestSure", fn := fun _ => fun
  | [d1, d2] => { results := [.lit (.bool true)], args := [d1, d2] }
  | _ => none }
def fnExactBestSureRow : OpenClaim := { program := "ytidmlibanopfhaa", sum := "2d15c4ead8e92e95715beb0b9b1794de433e799d86a6150637807c130697cf51", func := "loop.example/g01194/laws.FnExactBestSure", spec := "fnExactBestSure", unfollowed := true, recurses := true, apart := false }
def FnExactBestSureSaid : Prop := fnExactBestSureRow.holds Try.pinned (OpenSpec.ofChange fnExactBestSureSpec)

/-- ITS FALSE NEIGHBOUR: 'it returns false'. Refute it at one input. -/
def fnExactBestSureWrong : ChangeSpec := { name := "fnExactBestSure", fn := fun _ => fun
  | [d1, d2] => { results := [.lit (.bool false)], args := [d1, d2] }
  | _ => none }
def FnExactBestSureWrongFalsely : Prop := fnExactBestSureRow.holds Try.pinned (OpenSpec.ofChange fnExactBestSureWrong)

/-- 'laws.FnExactLastsHow': WHATEVER THE INPUT: true; the input reads as it did. -/
def fnExactLastsHowSpec : ChangeSpec := { name := "fnExactLastsHow", fn := fun _ => fun
  | [d] => { results := [.lit (.bool true)], args := [d] }
  | _ => none }
def fnExactLastsHowRow : OpenClaim := { program := "ytidmlibanopfhaa", sum := "2d15c4ead8e92e95715beb0b9b1794de433e799d86a6150637807c130697cf51", func := "loop.example/g01194/laws.FnExactLastsHow", spec := "fnExactLastsHow", unfollowed := true, recurses := true, apart := false }
def FnExactLastsHowSaid : Prop := fnExactLastsHowRow.holds Try.pinned (OpenSpec.ofChange fnExactLastsHowSpec)

/-- ITS FALSE NEIGHBOUR: 'it returns false'. Refute it at one input. -/
def fnExactLastsHowWrong : ChangeSpec := { name := "fnExactLastsHow", fn := fun _ => fun
  | [d] => { results := [.lit (.bool false)], args := [d] }
  | _ => none }
def FnExactLastsHowWrongFalsely : Prop := fnExactLastsHowRow.holds Try.pinned (OpenSpec.ofChange fnExactLastsHowWrong)

/-- 'laws.FnExactRefuteMove': WHATEVER THE INPUT: true; the input reads as it did. -/
def fnExactRefuteMoveSpec : ChangeSpec := { name := "fnExactRefuteMove", fn := fun _ => fun
  | [d1, d2, d3] => { results := [.lit (.bool true)], args := [d1, d2, d3] }
  | _ => none }
def fnExactRefuteMoveRow : OpenClaim := { program := "ytidmlibanopfhaa", sum := "2d15c4ead8e92e95715beb0b9b1794de433e799d86a6150637807c130697cf51", func := "loop.example/g01194/laws.FnExactRefuteMove", spec := "fnExactRefuteMove", unfollowed := true, recurses := true, apart := false }
def FnExactRefuteMoveSaid : Prop := fnExactRefuteMoveRow.holds Try.pinned (OpenSpec.ofChange fnExactRefuteMoveSpec)

/-- ITS FALSE NEIGHBOUR: 'it returns false'. Refute it at one input. -/
def fnExactRefuteMoveWrong : ChangeSpec := { name := "fnExactRefuteMove", fn := fun _ => fun
  | [d1, d2, d3] => { results := [.lit (.bool false)], args := [d1, d2, d3] }
  | _ => none }
def FnExactRefuteMoveWrongFalsely : Prop := fnExactRefuteMoveRow.holds Try.pinned (OpenSpec.ofChange fnExactRefuteMoveWrong)

/-- 'laws.FnExactWorstReply': WHATEVER THE INPUT: true; the input reads as it did. -/
def fnExactWorstReplySpec : ChangeSpec := { name := "fnExactWorstReply", fn := fun _ => fun
  | [d1, d2, d3] => { results := [.lit (.bool true)], args := [d1, d2, d3] }
  | _ => none }
def fnExactWorstReplyRow : OpenClaim := { program := "ytidmlibanopfhaa", sum := "2d15c4ead8e92e95715beb0b9b1794de433e799d86a6150637807c130697cf51", func := "loop.example/g01194/laws.FnExactWorstReply", spec := "fnExactWorstReply", unfollowed := true, recurses := true, apart := false }
def FnExactWorstReplySaid : Prop := fnExactWorstReplyRow.holds Try.pinned (OpenSpec.ofChange fnExactWorstReplySpec)

/-- ITS FALSE NEIGHBOUR: 'it returns false'. Refute it at one input. -/
def fnExactWorstReplyWrong : ChangeSpec := { name := "fnExactWorstReply", fn := fun _ => fun
  | [d1, d2, d3] => { results := [.lit (.bool false)], args := [d1, d2, d3] }
  | _ => none }
def FnExactWorstReplyWrongFalsely : Prop := fnExactWorstReplyRow.holds Try.pinned (OpenSpec.ofChange fnExactWorstReplyWrong)

/-- 'laws.FnExactSafeMoves': WHATEVER THE INPUT: true; the input reads as it did. -/
def fnExactSafeMovesSpec : ChangeSpec := { name := "fnExactSafeMoves", fn := fun _ => fun
  | [d1, d2] => { results := [.lit (.bool true)], args := [d1, d2] }
  | _ => none }
def fnExactSafeMovesRow : OpenClaim := { program := "ytidmlibanopfhaa", sum := "2d15c4ead8e92e95715beb0b9b1794de433e799d86a6150637807c130697cf51", func := "loop.example/g01194/laws.FnExactSafeMoves", spec := "fnExactSafeMoves", unfollowed := true, recurses := true, apart := false }
def FnExactSafeMovesSaid : Prop := fnExactSafeMovesRow.holds Try.pinned (OpenSpec.ofChange fnExactSafeMovesSpec)

/-- ITS FALSE NEIGHBOUR: 'it returns false'. Refute it at one input. -/
def fnExactSafeMovesWrong : ChangeSpec := { name := "fnExactSafeMoves", fn := fun _ => fun
  | [d1, d2] => { results := [.lit (.bool false)], args := [d1, d2] }
  | _ => none }
def FnExactSafeMovesWrongFalsely : Prop := fnExactSafeMovesRow.holds Try.pinned (OpenSpec.ofChange fnExactSafeMovesWrong)

/- THE SECOND FORM. 'bulk': how many values and letters a reading holds, each counted each time it is reached (what is shared counts as often as it is met; a slice's spare places count too). A statement '..UptoSaid' is the law's where the arguments, and the package variables that the reading takes, are together of bulk at most 1048576: NARROWER than '..Said'. Prove '..Said' where nothing that the law and all that it calls make is longer than what came in: it says more and counts as full. Else prove '..UptoSaid'. A law counts once. -/
mutual
def uptoBulk {H : Type} : DataW H → Nat
  | .lit (.string bytes) => bytes.length + 1
  | .lit _ => 1
  | .nil => 1
  | .ptr d => uptoBulk d + 1
  | .slice elems spare => uptoBulkAll elems + uptoBulkAll spare + 1
  | .agg parts => uptoBulkAll parts + 1
  | .iface _ d => uptoBulk d + 1
  | .map entries => uptoBulkEntries entries + 1
  | .held _ => 1
def uptoBulkAll {H : Type} : List (DataW H) → Nat
  | [] => 0
  | d :: r => uptoBulk d + uptoBulkAll r
def uptoBulkEntries {H : Type} : List (Lit × DataW H) → Nat
  | [] => 0
  | x :: r => uptoBulkEntry x + uptoBulkEntries r
def uptoBulkEntry {H : Type} : Lit × DataW H → Nat
  | (.string bytes, d) => bytes.length + uptoBulk d + 1
  | (_, d) => uptoBulk d + 1
 end
def uptoSmall : (H : Type) → List (DataW H) → Bool := fun _ ds => decide (uptoBulkAll ds ≤ 1048576)
def OpenSpec.upto (s : _root_.Go.ChangeSpec) : _root_.Go.OpenSpec := { _root_.Go.OpenSpec.ofChange s with cond := some uptoSmall }

/-- 'laws.FnExactSureScore', WHERE WHAT IT READS IS OF BULK AT MOST 1048576: true; the input reads as it did. -/
def fnExactSureScoreUptoRow : OpenClaim := { program := "ytidmlibanopfhaa", sum := "2d15c4ead8e92e95715beb0b9b1794de433e799d86a6150637807c130697cf51", func := "loop.example/g01194/laws.FnExactSureScore", spec := "fnExactSureScore", unfollowed := true, recurses := true, apart := false, narrowed := true }
def FnExactSureScoreUptoSaid : Prop := fnExactSureScoreUptoRow.holds Try.pinned (OpenSpec.upto fnExactSureScoreSpec)

/-- 'laws.FnExactLasts', WHERE WHAT IT READS IS OF BULK AT MOST 1048576: true; the input reads as it did. -/
def fnExactLastsUptoRow : OpenClaim := { program := "ytidmlibanopfhaa", sum := "2d15c4ead8e92e95715beb0b9b1794de433e799d86a6150637807c130697cf51", func := "loop.example/g01194/laws.FnExactLasts", spec := "fnExactLasts", unfollowed := true, recurses := true, apart := false, narrowed := true }
def FnExactLastsUptoSaid : Prop := fnExactLastsUptoRow.holds Try.pinned (OpenSpec.upto fnExactLastsSpec)

/-- 'laws.FnExactBestSure', WHERE WHAT IT READS IS OF BULK AT MOST 1048576: true; the input reads as it did. -/
def fnExactBestSureUptoRow : OpenClaim := { program := "ytidmlibanopfhaa", sum := "2d15c4ead8e92e95715beb0b9b1794de433e799d86a6150637807c130697cf51", func := "loop.example/g01194/laws.FnExactBestSure", spec := "fnExactBestSure", unfollowed := true, recurses := true, apart := false, narrowed := true }
def FnExactBestSureUptoSaid : Prop := fnExactBestSureUptoRow.holds Try.pinned (OpenSpec.upto fnExactBestSureSpec)

/-- 'laws.FnExactLastsHow', WHERE WHAT IT READS IS OF BULK AT MOST 1048576: true; the input reads as it did. -/
def fnExactLastsHowUptoRow : OpenClaim := { program := "ytidmlibanopfhaa", sum := "2d15c4ead8e92e95715beb0b9b1794de433e799d86a6150637807c130697cf51", func := "loop.example/g01194/laws.FnExactLastsHow", spec := "fnExactLastsHow", unfollowed := true, recurses := true, apart := false, narrowed := true }
def FnExactLastsHowUptoSaid : Prop := fnExactLastsHowUptoRow.holds Try.pinned (OpenSpec.upto fnExactLastsHowSpec)

/-- 'laws.FnExactRefuteMove', WHERE WHAT IT READS IS OF BULK AT MOST 1048576: true; the input reads as it did. -/
def fnExactRefuteMoveUptoRow : OpenClaim := { program := "ytidmlibanopfhaa", sum := "2d15c4ead8e92e95715beb0b9b1794de433e799d86a6150637807c130697cf51", func := "loop.example/g01194/laws.FnExactRefuteMove", spec := "fnExactRefuteMove", unfollowed := true, recurses := true, apart := false, narrowed := true }
def FnExactRefuteMoveUptoSaid : Prop := fnExactRefuteMoveUptoRow.holds Try.pinned (OpenSpec.upto fnExactRefuteMoveSpec)

/-- 'laws.FnExactWorstReply', WHERE WHAT IT READS IS OF BULK AT MOST 1048576: true; the input reads as it did. -/
def fnExactWorstReplyUptoRow : OpenClaim := { program := "ytidmlibanopfhaa", sum := "2d15c4ead8e92e95715beb0b9b1794de433e799d86a6150637807c130697cf51", func := "loop.example/g01194/laws.FnExactWorstReply", spec := "fnExactWorstReply", unfollowed := true, recurses := true, apart := false, narrowed := true }
def FnExactWorstReplyUptoSaid : Prop := fnExactWorstReplyUptoRow.holds Try.pinned (OpenSpec.upto fnExactWorstReplySpec)

/-- 'laws.FnExactSafeMoves', WHERE WHAT IT READS IS OF BULK AT MOST 1048576: true; the input reads as it did. -/
def fnExactSafeMovesUptoRow : OpenClaim := { program := "ytidmlibanopfhaa", sum := "2d15c4ead8e92e95715beb0b9b1794de433e799d86a6150637807c130697cf51", func := "loop.example/g01194/laws.FnExactSafeMoves", spec := "fnExactSafeMoves", unfollowed := true, recurses := true, apart := false, narrowed := true }
def FnExactSafeMovesUptoSaid : Prop := fnExactSafeMovesUptoRow.holds Try.pinned (OpenSpec.upto fnExactSafeMovesSpec)

end Rows
end Go.Proofs.Ytidmlibanopfhaa
