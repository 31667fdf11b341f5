/-
  No cell of these rows narrows 'for every input' (looked for: loops, veiled, ifaces, maps, wideKeys, modest, calm, conditions, laid).
  DERIVED. THE GIVEN ROWS OF THIS SEAT. 34 by the template 'for every input the law returns true; each argument reads behind the call as it read before'; 0 by the template 'total and deterministic' (their statements: YtfbfemncflhnjaaTotals.lean).
  GIVEN WITH THE SEED: the statements are not yours to turn. If you find one false, say at which input.
  Laid BY PROGRAM, IN A SANDBOX (cutbox-rows.mjs): the forced cells as the released guide's own fill.sh prints them over the translation cccbc4a0c2da7e00… (all of the seat's roots in one cut). By AI agents, Wed Nov 11 2026. No macro, syntax, notation, axiom, sorry.
-/
import Derived.Test.YtfbfemncflhnjaaChecked
import GoSem.Claim
import GoSem.ClaimJoined
import GoSem.ClaimMapViews
import Derived.JoinedTies
import Derived.KernelRfl
namespace Go.Proofs.Ytfbfemncflhnjaa
/- THE CELL 'sum', in the pinned program and in every row, IS THE sha256 OF THE DUMP (.gsa) THAT YtfbfemncflhnjaaProg.lean LOADS. Nothing in Lean hashes anything: it is a label: what it is worth is what the hold of that sum in a sandbox is worth. -/
noncomputable def Try.pinned : Pinned := { name := "ytfbfemncflhnjaa", sum := "cccbc4a0c2da7e001000bc53bbb213d1e84530ae8c15dafcc46be71a0bb36b71", checked := Try.checked }
namespace Rows
def none {H : Type} : Left H := { results := [], args := [] }

/-- 'laws.FnExactWorstTile': WHATEVER THE INPUT: true; the input reads as it did. -/
def fnExactWorstTileSpec : ChangeSpec := { name := "fnExactWorstTile", fn := fun _ => fun
  | [d] => { results := [.lit (.bool true)], args := [d] }
  | _ => none }
def fnExactWorstTileRow : OpenClaim := { program := "ytfbfemncflhnjaa", sum := "cccbc4a0c2da7e001000bc53bbb213d1e84530ae8c15dafcc46be71a0bb36b71", func := "loop.example/g01194/laws.FnExactWorstTile", spec := "fnExactWorstTile", unfollowed := true, recurses := true, plainKeys := false, apart := false }
def FnExactWorstTileSaid : Prop := fnExactWorstTileRow.holds Try.pinned (OpenSpec.ofChange fnExactWorstTileSpec)

/-- ITS FALSE NEIGHBOUR: 'it returns false'. Refute it at one input. -/
def fnExactWorstTileWrong : ChangeSpec := { name := "fnExactWorstTile", fn := fun _ => fun
  | [d] => { results := [.lit (.bool false)], args := [d] }
  | _ => none }
def FnExactWorstTileWrongFalsely : Prop := fnExactWorstTileRow.holds Try.pinned (OpenSpec.ofChange fnExactWorstTileWrong)

/-- 'laws.FnExactDoStep': WHATEVER THE INPUT: true; the input reads as it did. -/
def fnExactDoStepSpec : ChangeSpec := { name := "fnExactDoStep", fn := fun _ => fun
  | [d1, d2] => { results := [.lit (.bool true)], args := [d1, d2] }
  | _ => none }
def fnExactDoStepRow : OpenClaim := { program := "ytfbfemncflhnjaa", sum := "cccbc4a0c2da7e001000bc53bbb213d1e84530ae8c15dafcc46be71a0bb36b71", func := "loop.example/g01194/laws.FnExactDoStep", spec := "fnExactDoStep", unfollowed := true, recurses := true, plainKeys := false, apart := false }
def FnExactDoStepSaid : Prop := fnExactDoStepRow.holds Try.pinned (OpenSpec.ofChange fnExactDoStepSpec)

/-- ITS FALSE NEIGHBOUR: 'it returns false'. Refute it at one input. -/
def fnExactDoStepWrong : ChangeSpec := { name := "fnExactDoStep", fn := fun _ => fun
  | [d1, d2] => { results := [.lit (.bool false)], args := [d1, d2] }
  | _ => none }
def FnExactDoStepWrongFalsely : Prop := fnExactDoStepRow.holds Try.pinned (OpenSpec.ofChange fnExactDoStepWrong)

/-- 'laws.FnExactFewestSlides': WHATEVER THE INPUT: true; the input reads as it did. -/
def fnExactFewestSlidesSpec : ChangeSpec := { name := "fnExactFewestSlides", fn := fun _ => fun
  | [d1, d2] => { results := [.lit (.bool true)], args := [d1, d2] }
  | _ => none }
def fnExactFewestSlidesRow : OpenClaim := { program := "ytfbfemncflhnjaa", sum := "cccbc4a0c2da7e001000bc53bbb213d1e84530ae8c15dafcc46be71a0bb36b71", func := "loop.example/g01194/laws.FnExactFewestSlides", spec := "fnExactFewestSlides", unfollowed := true, recurses := true, plainKeys := false, apart := false }
def FnExactFewestSlidesSaid : Prop := fnExactFewestSlidesRow.holds Try.pinned (OpenSpec.ofChange fnExactFewestSlidesSpec)

/-- ITS FALSE NEIGHBOUR: 'it returns false'. Refute it at one input. -/
def fnExactFewestSlidesWrong : ChangeSpec := { name := "fnExactFewestSlides", fn := fun _ => fun
  | [d1, d2] => { results := [.lit (.bool false)], args := [d1, d2] }
  | _ => none }
def FnExactFewestSlidesWrongFalsely : Prop := fnExactFewestSlidesRow.holds Try.pinned (OpenSpec.ofChange fnExactFewestSlidesWrong)

/-- 'laws.FnExactSureScore': WHATEVER THE INPUT: true; the input reads as it did. -/
def fnExactSureScoreSpec : ChangeSpec := { name := "fnExactSureScore", fn := fun _ => fun
  | [d1, d2] => { results := [.lit (.bool true)], args := [d1, d2] }
  | _ => none }
def fnExactSureScoreRow : OpenClaim := { program := "ytfbfemncflhnjaa", sum := "cccbc4a0c2da7e001000bc53bbb213d1e84530ae8c15dafcc46be71a0bb36b71", func := "loop.example/g01194/laws.FnExactSureScore", spec := "fnExactSureScore", unfollowed := true, recurses := true, plainKeys := false, apart := false }
def FnExactSureScoreSaid : Prop := fnExactSureScoreRow.holds Try.pinned (OpenSpec.ofChange fnExactSureScoreSpec)

/-- ITS FALSE NEIGHBOUR: 'it returns false'. Refute it at one input. -/
def fnExactSureScoreWrong : ChangeSpec := { name := "fnExactSureScore", fn := fun _ => fun
  | [d1, d2] => { results := [.lit (.bool false)], args := [d1, d2] }
  | _ => none }
def FnExactSureScoreWrongFalsely : Prop := fnExactSureScoreRow.holds Try.pinned (OpenSpec.ofChange fnExactSureScoreWrong)

/-- 'laws.FnExactDeadPlaces': WHATEVER THE INPUT: true; the input reads as it did. -/
def fnExactDeadPlacesSpec : ChangeSpec := { name := "fnExactDeadPlaces", fn := fun _ => fun
  | [d] => { results := [.lit (.bool true)], args := [d] }
  | _ => none }
def fnExactDeadPlacesRow : OpenClaim := { program := "ytfbfemncflhnjaa", sum := "cccbc4a0c2da7e001000bc53bbb213d1e84530ae8c15dafcc46be71a0bb36b71", func := "loop.example/g01194/laws.FnExactDeadPlaces", spec := "fnExactDeadPlaces", unfollowed := true, recurses := true, plainKeys := false, apart := false }
def FnExactDeadPlacesSaid : Prop := fnExactDeadPlacesRow.holds Try.pinned (OpenSpec.ofChange fnExactDeadPlacesSpec)

/-- ITS FALSE NEIGHBOUR: 'it returns false'. Refute it at one input. -/
def fnExactDeadPlacesWrong : ChangeSpec := { name := "fnExactDeadPlaces", fn := fun _ => fun
  | [d] => { results := [.lit (.bool false)], args := [d] }
  | _ => none }
def FnExactDeadPlacesWrongFalsely : Prop := fnExactDeadPlacesRow.holds Try.pinned (OpenSpec.ofChange fnExactDeadPlacesWrong)

/-- 'laws.FnExactLasts': WHATEVER THE INPUT: true; the input reads as it did. -/
def fnExactLastsSpec : ChangeSpec := { name := "fnExactLasts", fn := fun _ => fun
  | [d1, d2] => { results := [.lit (.bool true)], args := [d1, d2] }
  | _ => none }
def fnExactLastsRow : OpenClaim := { program := "ytfbfemncflhnjaa", sum := "cccbc4a0c2da7e001000bc53bbb213d1e84530ae8c15dafcc46be71a0bb36b71", func := "loop.example/g01194/laws.FnExactLasts", spec := "fnExactLasts", unfollowed := true, recurses := true, plainKeys := false, apart := false }
def FnExactLastsSaid : Prop := fnExactLastsRow.holds Try.pinned (OpenSpec.ofChange fnExactLastsSpec)

/-- ITS FALSE NEIGHBOUR: 'it returns false'. Refute it at one input. -/
def fnExactLastsWrong : ChangeSpec := { name := "fnExactLasts", fn := fun _ => fun
  | [d1, d2] => { results := [.lit (.bool false)], args := [d1, d2] }
  | _ => none }
def FnExactLastsWrongFalsely : Prop := fnExactLastsRow.holds Try.pinned (OpenSpec.ofChange fnExactLastsWrong)

/-- 'laws.FnExactHighestBySlides': WHATEVER THE INPUT: true; the input reads as it did. -/
def fnExactHighestBySlidesSpec : ChangeSpec := { name := "fnExactHighestBySlides", fn := fun _ => fun
  | [d] => { results := [.lit (.bool true)], args := [d] }
  | _ => none }
def fnExactHighestBySlidesRow : OpenClaim := { program := "ytfbfemncflhnjaa", sum := "cccbc4a0c2da7e001000bc53bbb213d1e84530ae8c15dafcc46be71a0bb36b71", func := "loop.example/g01194/laws.FnExactHighestBySlides", spec := "fnExactHighestBySlides", unfollowed := true, recurses := true, plainKeys := false, apart := false }
def FnExactHighestBySlidesSaid : Prop := fnExactHighestBySlidesRow.holds Try.pinned (OpenSpec.ofChange fnExactHighestBySlidesSpec)

/-- ITS FALSE NEIGHBOUR: 'it returns false'. Refute it at one input. -/
def fnExactHighestBySlidesWrong : ChangeSpec := { name := "fnExactHighestBySlides", fn := fun _ => fun
  | [d] => { results := [.lit (.bool false)], args := [d] }
  | _ => none }
def FnExactHighestBySlidesWrongFalsely : Prop := fnExactHighestBySlidesRow.holds Try.pinned (OpenSpec.ofChange fnExactHighestBySlidesWrong)

/-- 'laws.FnExactStepsOf': WHATEVER THE INPUT: true; the input reads as it did. -/
def fnExactStepsOfSpec : ChangeSpec := { name := "fnExactStepsOf", fn := fun _ => fun
  | [d1, d2] => { results := [.lit (.bool true)], args := [d1, d2] }
  | _ => none }
def fnExactStepsOfRow : OpenClaim := { program := "ytfbfemncflhnjaa", sum := "cccbc4a0c2da7e001000bc53bbb213d1e84530ae8c15dafcc46be71a0bb36b71", func := "loop.example/g01194/laws.FnExactStepsOf", spec := "fnExactStepsOf", unfollowed := true, recurses := true, plainKeys := false, apart := false }
def FnExactStepsOfSaid : Prop := fnExactStepsOfRow.holds Try.pinned (OpenSpec.ofChange fnExactStepsOfSpec)

/-- ITS FALSE NEIGHBOUR: 'it returns false'. Refute it at one input. -/
def fnExactStepsOfWrong : ChangeSpec := { name := "fnExactStepsOf", fn := fun _ => fun
  | [d1, d2] => { results := [.lit (.bool false)], args := [d1, d2] }
  | _ => none }
def FnExactStepsOfWrongFalsely : Prop := fnExactStepsOfRow.holds Try.pinned (OpenSpec.ofChange fnExactStepsOfWrong)

/-- 'laws.FnExactBestSure': WHATEVER THE INPUT: true; the input reads as it did. -/
def fnExactBestSureSpec : ChangeSpec := { name := "fnExactBestSure", fn := fun _ => fun
  | [d1, d2] => { results := [.lit (.bool true)], args := [d1, d2] }
  | _ => none }
def fnExactBestSureRow : OpenClaim := { program := "ytfbfemncflhnjaa", sum := "cccbc4a0c2da7e001000bc53bbb213d1e84530ae8c15dafcc46be71a0bb36b71", func := "loop.example/g01194/laws.FnExactBestSure", spec := "fnExactBestSure", unfollowed := true, recurses := true, plainKeys := false, apart := false }
def FnExactBestSureSaid : Prop := fnExactBestSureRow.holds Try.pinned (OpenSpec.ofChange fnExactBestSureSpec)

/-- ITS FALSE NEIGHBOUR: 'it returns false'. Refute it at one input. -/
def fnExactBestSureWrong : ChangeSpec := { name := "fnExactBestSure", fn := fun _ => fun
  | [d1, d2] => { results := [.lit (.bool false)], args := [d1, d2] }
  | _ => none }
def FnExactBestSureWrongFalsely : Prop := fnExactBestSureRow.holds Try.pinned (OpenSpec.ofChange fnExactBestSureWrong)

/-- 'laws.FnExactLastsHow': WHATEVER THE INPUT: true; the input reads as it did. -/
def fnExactLastsHowSpec : ChangeSpec := { name := "fnExactLastsHow", fn := fun _ => fun
  | [d] => { results := [.lit (.bool true)], args := [d] }
  | _ => none }
def fnExactLastsHowRow : OpenClaim := { program := "ytfbfemncflhnjaa", sum := "cccbc4a0c2da7e001000bc53bbb213d1e84530ae8c15dafcc46be71a0bb36b71", func := "loop.example/g01194/laws.FnExactLastsHow", spec := "fnExactLastsHow", unfollowed := true, recurses := true, plainKeys := false, apart := false }
def FnExactLastsHowSaid : Prop := fnExactLastsHowRow.holds Try.pinned (OpenSpec.ofChange fnExactLastsHowSpec)

/-- ITS FALSE NEIGHBOUR: 'it returns false'. Refute it at one input. -/
def fnExactLastsHowWrong : ChangeSpec := { name := "fnExactLastsHow", fn := fun _ => fun
  | [d] => { results := [.lit (.bool false)], args := [d] }
  | _ => none }
def FnExactLastsHowWrongFalsely : Prop := fnExactLastsHowRow.holds Try.pinned (OpenSpec.ofChange fnExactLastsHowWrong)

/-- 'laws.FnExactRefuteMove': WHATEVER THE INPUT: true; the input reads as it did. -/
def fnExactRefuteMoveSpec : ChangeSpec := { name := "fnExactRefuteMove", fn := fun _ => fun
  | [d1, d2, d3] => { results := [.lit (.bool true)], args := [d1, d2, d3] }
  | _ => none }
def fnExactRefuteMoveRow : OpenClaim := { program := "ytfbfemncflhnjaa", sum := "cccbc4a0c2da7e001000bc53bbb213d1e84530ae8c15dafcc46be71a0bb36b71", func := "loop.example/g01194/laws.FnExactRefuteMove", spec := "fnExactRefuteMove", unfollowed := true, recurses := true, plainKeys := false, apart := false }
def FnExactRefuteMoveSaid : Prop := fnExactRefuteMoveRow.holds Try.pinned (OpenSpec.ofChange fnExactRefuteMoveSpec)

/-- ITS FALSE NEIGHBOUR: 'it returns false'. Refute it at one input. -/
def fnExactRefuteMoveWrong : ChangeSpec := { name := "fnExactRefuteMove", fn := fun _ => fun
  | [d1, d2, d3] => { results := [.lit (.bool false)], args := [d1, d2, d3] }
  | _ => none }
def FnExactRefuteMoveWrongFalsely : Prop := fnExactRefuteMoveRow.holds Try.pinned (OpenSpec.ofChange fnExactRefuteMoveWrong)

/-- 'laws.FnExactWorstReply': WHATEVER THE INPUT: true; the input reads as it did. -/
def fnExactWorstReplySpec : ChangeSpec := { name := "fnExactWorstReply", fn := fun _ => fun
  | [d1, d2, d3] => { results := [.lit (.bool true)], args := [d1, d2, d3] }
  | _ => none }
def fnExactWorstReplyRow : OpenClaim := { program := "ytfbfemncflhnjaa", sum := "cccbc4a0c2da7e001000bc53bbb213d1e84530ae8c15dafcc46be71a0bb36b71", func := "loop.example/g01194/laws.FnExactWorstReply", spec := "fnExactWorstReply", unfollowed := true, recurses := true, plainKeys := false, apart := false }
def FnExactWorstReplySaid : Prop := fnExactWorstReplyRow.holds Try.pinned (OpenSpec.ofChange fnExactWorstReplySpec)

/-- ITS FALSE NEIGHBOUR: 'it returns false'. Refute it at one input. -/
def fnExactWorstReplyWrong : ChangeSpec := { name := "fnExactWorstReply", fn := fun _ => fun
  | [d1, d2, d3] => { results := [.lit (.bool false)], args := [d1, d2, d3] }
  | _ => none }
def FnExactWorstReplyWrongFalsely : Prop := fnExactWorstReplyRow.holds Try.pinned (OpenSpec.ofChange fnExactWorstReplyWrong)

/-- 'laws.FnExactIsTrapped': WHATEVER THE INPUT: true; the input reads as it did. -/
def fnExactIsTrappedSpec : ChangeSpec := { name := "fnExactIsTrapped", fn := fun _ => fun
  | [d] => { results := [.lit (.bool true)], args := [d] }
  | _ => none }
def fnExactIsTrappedRow : OpenClaim := { program := "ytfbfemncflhnjaa", sum := "cccbc4a0c2da7e001000bc53bbb213d1e84530ae8c15dafcc46be71a0bb36b71", func := "loop.example/g01194/laws.FnExactIsTrapped", spec := "fnExactIsTrapped", unfollowed := true, recurses := true, plainKeys := false, apart := false }
def FnExactIsTrappedSaid : Prop := fnExactIsTrappedRow.holds Try.pinned (OpenSpec.ofChange fnExactIsTrappedSpec)

/-- ITS FALSE NEIGHBOUR: 'it returns false'. Refute it at one input. -/
def fnExactIsTrappedWrong : ChangeSpec := { name := "fnExactIsTrapped", fn := fun _ => fun
  | [d] => { results := [.lit (.bool false)], args := [d] }
  | _ => none }
def FnExactIsTrappedWrongFalsely : Prop := fnExactIsTrappedRow.holds Try.pinned (OpenSpec.ofChange fnExactIsTrappedWrong)

/-- 'laws.FnExactCountNext': WHATEVER THE INPUT: true; the input reads as it did. -/
def fnExactCountNextSpec : ChangeSpec := { name := "fnExactCountNext", fn := fun _ => fun
  | [d] => { results := [.lit (.bool true)], args := [d] }
  | _ => none }
def fnExactCountNextRow : OpenClaim := { program := "ytfbfemncflhnjaa", sum := "cccbc4a0c2da7e001000bc53bbb213d1e84530ae8c15dafcc46be71a0bb36b71", func := "loop.example/g01194/laws.FnExactCountNext", spec := "fnExactCountNext", unfollowed := true, recurses := true, plainKeys := false, apart := false }
def FnExactCountNextSaid : Prop := fnExactCountNextRow.holds Try.pinned (OpenSpec.ofChange fnExactCountNextSpec)

/-- ITS FALSE NEIGHBOUR: 'it returns false'. Refute it at one input. -/
def fnExactCountNextWrong : ChangeSpec := { name := "fnExactCountNext", fn := fun _ => fun
  | [d] => { results := [.lit (.bool false)], args := [d] }
  | _ => none }
def FnExactCountNextWrongFalsely : Prop := fnExactCountNextRow.holds Try.pinned (OpenSpec.ofChange fnExactCountNextWrong)

/-- 'laws.FnExactSafeMoves': WHATEVER THE INPUT: true; the input reads as it did. -/
def fnExactSafeMovesSpec : ChangeSpec := { name := "fnExactSafeMoves", fn := fun _ => fun
  | [d1, d2] => { results := [.lit (.bool true)], args := [d1, d2] }
  | _ => none }
def fnExactSafeMovesRow : OpenClaim := { program := "ytfbfemncflhnjaa", sum := "cccbc4a0c2da7e001000bc53bbb213d1e84530ae8c15dafcc46be71a0bb36b71", func := "loop.example/g01194/laws.FnExactSafeMoves", spec := "fnExactSafeMoves", unfollowed := true, recurses := true, plainKeys := false, apart := false }
def FnExactSafeMovesSaid : Prop := fnExactSafeMovesRow.holds Try.pinned (OpenSpec.ofChange fnExactSafeMovesSpec)

/-- ITS FALSE NEIGHBOUR: 'it returns false'. Refute it at one input. -/
def fnExactSafeMovesWrong : ChangeSpec := { name := "fnExactSafeMoves", fn := fun _ => fun
  | [d1, d2] => { results := [.lit (.bool false)], args := [d1, d2] }
  | _ => none }
def FnExactSafeMovesWrongFalsely : Prop := fnExactSafeMovesRow.holds Try.pinned (OpenSpec.ofChange fnExactSafeMovesWrong)

/-- 'laws.FnExactFirstSlides': WHATEVER THE INPUT: true; the input reads as it did. -/
def fnExactFirstSlidesSpec : ChangeSpec := { name := "fnExactFirstSlides", fn := fun _ => fun
  | [d1, d2] => { results := [.lit (.bool true)], args := [d1, d2] }
  | _ => none }
def fnExactFirstSlidesRow : OpenClaim := { program := "ytfbfemncflhnjaa", sum := "cccbc4a0c2da7e001000bc53bbb213d1e84530ae8c15dafcc46be71a0bb36b71", func := "loop.example/g01194/laws.FnExactFirstSlides", spec := "fnExactFirstSlides", unfollowed := true, recurses := true, plainKeys := false, apart := false }
def FnExactFirstSlidesSaid : Prop := fnExactFirstSlidesRow.holds Try.pinned (OpenSpec.ofChange fnExactFirstSlidesSpec)

/-- ITS FALSE NEIGHBOUR: 'it returns false'. Refute it at one input. -/
def fnExactFirstSlidesWrong : ChangeSpec := { name := "fnExactFirstSlides", fn := fun _ => fun
  | [d1, d2] => { results := [.lit (.bool false)], args := [d1, d2] }
  | _ => none }
def FnExactFirstSlidesWrongFalsely : Prop := fnExactFirstSlidesRow.holds Try.pinned (OpenSpec.ofChange fnExactFirstSlidesWrong)

/-- 'laws.FnExactChanceOfNext': WHATEVER THE INPUT: true; the input reads as it did. -/
def fnExactChanceOfNextSpec : ChangeSpec := { name := "fnExactChanceOfNext", fn := fun _ => fun
  | [d1, d2, d3] => { results := [.lit (.bool true)], args := [d1, d2, d3] }
  | _ => none }
def fnExactChanceOfNextRow : OpenClaim := { program := "ytfbfemncflhnjaa", sum := "cccbc4a0c2da7e001000bc53bbb213d1e84530ae8c15dafcc46be71a0bb36b71", func := "loop.example/g01194/laws.FnExactChanceOfNext", spec := "fnExactChanceOfNext", unfollowed := true, recurses := true, plainKeys := false, apart := false }
def FnExactChanceOfNextSaid : Prop := fnExactChanceOfNextRow.holds Try.pinned (OpenSpec.ofChange fnExactChanceOfNextSpec)

/-- ITS FALSE NEIGHBOUR: 'it returns false'. Refute it at one input. -/
def fnExactChanceOfNextWrong : ChangeSpec := { name := "fnExactChanceOfNext", fn := fun _ => fun
  | [d1, d2, d3] => { results := [.lit (.bool false)], args := [d1, d2, d3] }
  | _ => none }
def FnExactChanceOfNextWrongFalsely : Prop := fnExactChanceOfNextRow.holds Try.pinned (OpenSpec.ofChange fnExactChanceOfNextWrong)

/-- 'laws.FnExactPlaySteps': WHATEVER THE INPUT: true; the input reads as it did. -/
def fnExactPlayStepsSpec : ChangeSpec := { name := "fnExactPlaySteps", fn := fun _ => fun
  | [d1, d2] => { results := [.lit (.bool true)], args := [d1, d2] }
  | _ => none }
def fnExactPlayStepsRow : OpenClaim := { program := "ytfbfemncflhnjaa", sum := "cccbc4a0c2da7e001000bc53bbb213d1e84530ae8c15dafcc46be71a0bb36b71", func := "loop.example/g01194/laws.FnExactPlaySteps", spec := "fnExactPlaySteps", unfollowed := true, recurses := true, plainKeys := false, apart := false }
def FnExactPlayStepsSaid : Prop := fnExactPlayStepsRow.holds Try.pinned (OpenSpec.ofChange fnExactPlayStepsSpec)

/-- ITS FALSE NEIGHBOUR: 'it returns false'. Refute it at one input. -/
def fnExactPlayStepsWrong : ChangeSpec := { name := "fnExactPlaySteps", fn := fun _ => fun
  | [d1, d2] => { results := [.lit (.bool false)], args := [d1, d2] }
  | _ => none }
def FnExactPlayStepsWrongFalsely : Prop := fnExactPlayStepsRow.holds Try.pinned (OpenSpec.ofChange fnExactPlayStepsWrong)

/-- 'laws.FnExactChanceOfTile': WHATEVER THE INPUT: true; the input reads as it did. -/
def fnExactChanceOfTileSpec : ChangeSpec := { name := "fnExactChanceOfTile", fn := fun _ => fun
  | [d1, d2, d3, d4] => { results := [.lit (.bool true)], args := [d1, d2, d3, d4] }
  | _ => none }
def fnExactChanceOfTileRow : OpenClaim := { program := "ytfbfemncflhnjaa", sum := "cccbc4a0c2da7e001000bc53bbb213d1e84530ae8c15dafcc46be71a0bb36b71", func := "loop.example/g01194/laws.FnExactChanceOfTile", spec := "fnExactChanceOfTile", unfollowed := true, recurses := true, plainKeys := false, apart := false }
def FnExactChanceOfTileSaid : Prop := fnExactChanceOfTileRow.holds Try.pinned (OpenSpec.ofChange fnExactChanceOfTileSpec)

/-- ITS FALSE NEIGHBOUR: 'it returns false'. Refute it at one input. -/
def fnExactChanceOfTileWrong : ChangeSpec := { name := "fnExactChanceOfTile", fn := fun _ => fun
  | [d1, d2, d3, d4] => { results := [.lit (.bool false)], args := [d1, d2, d3, d4] }
  | _ => none }
def FnExactChanceOfTileWrongFalsely : Prop := fnExactChanceOfTileRow.holds Try.pinned (OpenSpec.ofChange fnExactChanceOfTileWrong)

/-- 'laws.FnExactMergeChance': WHATEVER THE INPUT: true; the input reads as it did. -/
def fnExactMergeChanceSpec : ChangeSpec := { name := "fnExactMergeChance", fn := fun _ => fun
  | [d1, d2] => { results := [.lit (.bool true)], args := [d1, d2] }
  | _ => none }
def fnExactMergeChanceRow : OpenClaim := { program := "ytfbfemncflhnjaa", sum := "cccbc4a0c2da7e001000bc53bbb213d1e84530ae8c15dafcc46be71a0bb36b71", func := "loop.example/g01194/laws.FnExactMergeChance", spec := "fnExactMergeChance", unfollowed := true, recurses := true, plainKeys := false, apart := false }
def FnExactMergeChanceSaid : Prop := fnExactMergeChanceRow.holds Try.pinned (OpenSpec.ofChange fnExactMergeChanceSpec)

/-- ITS FALSE NEIGHBOUR: 'it returns false'. Refute it at one input. -/
def fnExactMergeChanceWrong : ChangeSpec := { name := "fnExactMergeChance", fn := fun _ => fun
  | [d1, d2] => { results := [.lit (.bool false)], args := [d1, d2] }
  | _ => none }
def FnExactMergeChanceWrongFalsely : Prop := fnExactMergeChanceRow.holds Try.pinned (OpenSpec.ofChange fnExactMergeChanceWrong)

/-- 'laws.FnExactChanceOver': WHATEVER THE INPUT: true; the input reads as it did. -/
def fnExactChanceOverSpec : ChangeSpec := { name := "fnExactChanceOver", fn := fun _ => fun
  | [d1, d2] => { results := [.lit (.bool true)], args := [d1, d2] }
  | _ => none }
def fnExactChanceOverRow : OpenClaim := { program := "ytfbfemncflhnjaa", sum := "cccbc4a0c2da7e001000bc53bbb213d1e84530ae8c15dafcc46be71a0bb36b71", func := "loop.example/g01194/laws.FnExactChanceOver", spec := "fnExactChanceOver", unfollowed := true, recurses := true, plainKeys := false, apart := false }
def FnExactChanceOverSaid : Prop := fnExactChanceOverRow.holds Try.pinned (OpenSpec.ofChange fnExactChanceOverSpec)

/-- ITS FALSE NEIGHBOUR: 'it returns false'. Refute it at one input. -/
def fnExactChanceOverWrong : ChangeSpec := { name := "fnExactChanceOver", fn := fun _ => fun
  | [d1, d2] => { results := [.lit (.bool false)], args := [d1, d2] }
  | _ => none }
def FnExactChanceOverWrongFalsely : Prop := fnExactChanceOverRow.holds Try.pinned (OpenSpec.ofChange fnExactChanceOverWrong)

/-- 'laws.FnExactMeanScore': WHATEVER THE INPUT: true; the input reads as it did. -/
def fnExactMeanScoreSpec : ChangeSpec := { name := "fnExactMeanScore", fn := fun _ => fun
  | [d1, d2] => { results := [.lit (.bool true)], args := [d1, d2] }
  | _ => none }
def fnExactMeanScoreRow : OpenClaim := { program := "ytfbfemncflhnjaa", sum := "cccbc4a0c2da7e001000bc53bbb213d1e84530ae8c15dafcc46be71a0bb36b71", func := "loop.example/g01194/laws.FnExactMeanScore", spec := "fnExactMeanScore", unfollowed := true, recurses := true, plainKeys := false, apart := false }
def FnExactMeanScoreSaid : Prop := fnExactMeanScoreRow.holds Try.pinned (OpenSpec.ofChange fnExactMeanScoreSpec)

/-- ITS FALSE NEIGHBOUR: 'it returns false'. Refute it at one input. -/
def fnExactMeanScoreWrong : ChangeSpec := { name := "fnExactMeanScore", fn := fun _ => fun
  | [d1, d2] => { results := [.lit (.bool false)], args := [d1, d2] }
  | _ => none }
def FnExactMeanScoreWrongFalsely : Prop := fnExactMeanScoreRow.holds Try.pinned (OpenSpec.ofChange fnExactMeanScoreWrong)

/-- 'laws.FnExactStepBetween': WHATEVER THE INPUT: true; the input reads as it did. -/
def fnExactStepBetweenSpec : ChangeSpec := { name := "fnExactStepBetween", fn := fun _ => fun
  | [d1, d2] => { results := [.lit (.bool true)], args := [d1, d2] }
  | _ => none }
def fnExactStepBetweenRow : OpenClaim := { program := "ytfbfemncflhnjaa", sum := "cccbc4a0c2da7e001000bc53bbb213d1e84530ae8c15dafcc46be71a0bb36b71", func := "loop.example/g01194/laws.FnExactStepBetween", spec := "fnExactStepBetween", unfollowed := true, recurses := true, plainKeys := false, apart := false }
def FnExactStepBetweenSaid : Prop := fnExactStepBetweenRow.holds Try.pinned (OpenSpec.ofChange fnExactStepBetweenSpec)

/-- ITS FALSE NEIGHBOUR: 'it returns false'. Refute it at one input. -/
def fnExactStepBetweenWrong : ChangeSpec := { name := "fnExactStepBetween", fn := fun _ => fun
  | [d1, d2] => { results := [.lit (.bool false)], args := [d1, d2] }
  | _ => none }
def FnExactStepBetweenWrongFalsely : Prop := fnExactStepBetweenRow.holds Try.pinned (OpenSpec.ofChange fnExactStepBetweenWrong)

/-- 'laws.FnExactFirstWell': WHATEVER THE INPUT: true; the input reads as it did. -/
def fnExactFirstWellSpec : ChangeSpec := { name := "fnExactFirstWell", fn := fun _ => fun
  | [d1, d2] => { results := [.lit (.bool true)], args := [d1, d2] }
  | _ => none }
def fnExactFirstWellRow : OpenClaim := { program := "ytfbfemncflhnjaa", sum := "cccbc4a0c2da7e001000bc53bbb213d1e84530ae8c15dafcc46be71a0bb36b71", func := "loop.example/g01194/laws.FnExactFirstWell", spec := "fnExactFirstWell", unfollowed := true, recurses := true, plainKeys := false, apart := false }
def FnExactFirstWellSaid : Prop := fnExactFirstWellRow.holds Try.pinned (OpenSpec.ofChange fnExactFirstWellSpec)

/-- ITS FALSE NEIGHBOUR: 'it returns false'. Refute it at one input. -/
def fnExactFirstWellWrong : ChangeSpec := { name := "fnExactFirstWell", fn := fun _ => fun
  | [d1, d2] => { results := [.lit (.bool false)], args := [d1, d2] }
  | _ => none }
def FnExactFirstWellWrongFalsely : Prop := fnExactFirstWellRow.holds Try.pinned (OpenSpec.ofChange fnExactFirstWellWrong)

/-- 'laws.FnExactSnakeBoard': WHATEVER THE INPUT: true; the input reads as it did. -/
def fnExactSnakeBoardSpec : ChangeSpec := { name := "fnExactSnakeBoard", fn := fun _ => fun
  | [d1, d2] => { results := [.lit (.bool true)], args := [d1, d2] }
  | _ => none }
def fnExactSnakeBoardRow : OpenClaim := { program := "ytfbfemncflhnjaa", sum := "cccbc4a0c2da7e001000bc53bbb213d1e84530ae8c15dafcc46be71a0bb36b71", func := "loop.example/g01194/laws.FnExactSnakeBoard", spec := "fnExactSnakeBoard", unfollowed := true, recurses := true, plainKeys := false, apart := false }
def FnExactSnakeBoardSaid : Prop := fnExactSnakeBoardRow.holds Try.pinned (OpenSpec.ofChange fnExactSnakeBoardSpec)

/-- ITS FALSE NEIGHBOUR: 'it returns false'. Refute it at one input. -/
def fnExactSnakeBoardWrong : ChangeSpec := { name := "fnExactSnakeBoard", fn := fun _ => fun
  | [d1, d2] => { results := [.lit (.bool false)], args := [d1, d2] }
  | _ => none }
def FnExactSnakeBoardWrongFalsely : Prop := fnExactSnakeBoardRow.holds Try.pinned (OpenSpec.ofChange fnExactSnakeBoardWrong)

/-- 'laws.FnExactReachBySlides': WHATEVER THE INPUT: true; the input reads as it did. -/
def fnExactReachBySlidesSpec : ChangeSpec := { name := "fnExactReachBySlides", fn := fun _ => fun
  | [d1, d2] => { results := [.lit (.bool true)], args := [d1, d2] }
  | _ => none }
def fnExactReachBySlidesRow : OpenClaim := { program := "ytfbfemncflhnjaa", sum := "cccbc4a0c2da7e001000bc53bbb213d1e84530ae8c15dafcc46be71a0bb36b71", func := "loop.example/g01194/laws.FnExactReachBySlides", spec := "fnExactReachBySlides", unfollowed := true, recurses := true, plainKeys := false, apart := false }
def FnExactReachBySlidesSaid : Prop := fnExactReachBySlidesRow.holds Try.pinned (OpenSpec.ofChange fnExactReachBySlidesSpec)

/-- ITS FALSE NEIGHBOUR: 'it returns false'. Refute it at one input. -/
def fnExactReachBySlidesWrong : ChangeSpec := { name := "fnExactReachBySlides", fn := fun _ => fun
  | [d1, d2] => { results := [.lit (.bool false)], args := [d1, d2] }
  | _ => none }
def FnExactReachBySlidesWrongFalsely : Prop := fnExactReachBySlidesRow.holds Try.pinned (OpenSpec.ofChange fnExactReachBySlidesWrong)

/-- 'laws.FnExactCountBefore': WHATEVER THE INPUT: true; the input reads as it did. -/
def fnExactCountBeforeSpec : ChangeSpec := { name := "fnExactCountBefore", fn := fun _ => fun
  | [d1, d2] => { results := [.lit (.bool true)], args := [d1, d2] }
  | _ => none }
def fnExactCountBeforeRow : OpenClaim := { program := "ytfbfemncflhnjaa", sum := "cccbc4a0c2da7e001000bc53bbb213d1e84530ae8c15dafcc46be71a0bb36b71", func := "loop.example/g01194/laws.FnExactCountBefore", spec := "fnExactCountBefore", unfollowed := true, recurses := true, plainKeys := false, apart := false }
def FnExactCountBeforeSaid : Prop := fnExactCountBeforeRow.holds Try.pinned (OpenSpec.ofChange fnExactCountBeforeSpec)

/-- ITS FALSE NEIGHBOUR: 'it returns false'. Refute it at one input. -/
def fnExactCountBeforeWrong : ChangeSpec := { name := "fnExactCountBefore", fn := fun _ => fun
  | [d1, d2] => { results := [.lit (.bool false)], args := [d1, d2] }
  | _ => none }
def FnExactCountBeforeWrongFalsely : Prop := fnExactCountBeforeRow.holds Try.pinned (OpenSpec.ofChange fnExactCountBeforeWrong)

/-- 'laws.FnExactWaysInto': WHATEVER THE INPUT: true; the input reads as it did. -/
def fnExactWaysIntoSpec : ChangeSpec := { name := "fnExactWaysInto", fn := fun _ => fun
  | [d] => { results := [.lit (.bool true)], args := [d] }
  | _ => none }
def fnExactWaysIntoRow : OpenClaim := { program := "ytfbfemncflhnjaa", sum := "cccbc4a0c2da7e001000bc53bbb213d1e84530ae8c15dafcc46be71a0bb36b71", func := "loop.example/g01194/laws.FnExactWaysInto", spec := "fnExactWaysInto", unfollowed := true, recurses := true, plainKeys := false, apart := false }
def FnExactWaysIntoSaid : Prop := fnExactWaysIntoRow.holds Try.pinned (OpenSpec.ofChange fnExactWaysIntoSpec)

/-- ITS FALSE NEIGHBOUR: 'it returns false'. Refute it at one input. -/
def fnExactWaysIntoWrong : ChangeSpec := { name := "fnExactWaysInto", fn := fun _ => fun
  | [d] => { results := [.lit (.bool false)], args := [d] }
  | _ => none }
def FnExactWaysIntoWrongFalsely : Prop := fnExactWaysIntoRow.holds Try.pinned (OpenSpec.ofChange fnExactWaysIntoWrong)

/-- 'laws.FnExactIsMade': WHATEVER THE INPUT: true; the input reads as it did. -/
def fnExactIsMadeSpec : ChangeSpec := { name := "fnExactIsMade", fn := fun _ => fun
  | [d] => { results := [.lit (.bool true)], args := [d] }
  | _ => none }
def fnExactIsMadeRow : OpenClaim := { program := "ytfbfemncflhnjaa", sum := "cccbc4a0c2da7e001000bc53bbb213d1e84530ae8c15dafcc46be71a0bb36b71", func := "loop.example/g01194/laws.FnExactIsMade", spec := "fnExactIsMade", unfollowed := true, recurses := true, plainKeys := false, apart := false }
def FnExactIsMadeSaid : Prop := fnExactIsMadeRow.holds Try.pinned (OpenSpec.ofChange fnExactIsMadeSpec)

/-- ITS FALSE NEIGHBOUR: 'it returns false'. Refute it at one input. -/
def fnExactIsMadeWrong : ChangeSpec := { name := "fnExactIsMade", fn := fun _ => fun
  | [d] => { results := [.lit (.bool false)], args := [d] }
  | _ => none }
def FnExactIsMadeWrongFalsely : Prop := fnExactIsMadeRow.holds Try.pinned (OpenSpec.ofChange fnExactIsMadeWrong)

/-- 'laws.FnExactMostBefore': WHATEVER THE INPUT: true; the input reads as it did. -/
def fnExactMostBeforeSpec : ChangeSpec := { name := "fnExactMostBefore", fn := fun _ => fun
  | [d1, d2] => { results := [.lit (.bool true)], args := [d1, d2] }
  | _ => none }
def fnExactMostBeforeRow : OpenClaim := { program := "ytfbfemncflhnjaa", sum := "cccbc4a0c2da7e001000bc53bbb213d1e84530ae8c15dafcc46be71a0bb36b71", func := "loop.example/g01194/laws.FnExactMostBefore", spec := "fnExactMostBefore", unfollowed := true, recurses := true, plainKeys := false, apart := false }
def FnExactMostBeforeSaid : Prop := fnExactMostBeforeRow.holds Try.pinned (OpenSpec.ofChange fnExactMostBeforeSpec)

/-- ITS FALSE NEIGHBOUR: 'it returns false'. Refute it at one input. -/
def fnExactMostBeforeWrong : ChangeSpec := { name := "fnExactMostBefore", fn := fun _ => fun
  | [d1, d2] => { results := [.lit (.bool false)], args := [d1, d2] }
  | _ => none }
def FnExactMostBeforeWrongFalsely : Prop := fnExactMostBeforeRow.holds Try.pinned (OpenSpec.ofChange fnExactMostBeforeWrong)

/-- 'laws.FnExactSidesInto': WHATEVER THE INPUT: true; the input reads as it did. -/
def fnExactSidesIntoSpec : ChangeSpec := { name := "fnExactSidesInto", fn := fun _ => fun
  | [d] => { results := [.lit (.bool true)], args := [d] }
  | _ => none }
def fnExactSidesIntoRow : OpenClaim := { program := "ytfbfemncflhnjaa", sum := "cccbc4a0c2da7e001000bc53bbb213d1e84530ae8c15dafcc46be71a0bb36b71", func := "loop.example/g01194/laws.FnExactSidesInto", spec := "fnExactSidesInto", unfollowed := true, recurses := true, plainKeys := false, apart := false }
def FnExactSidesIntoSaid : Prop := fnExactSidesIntoRow.holds Try.pinned (OpenSpec.ofChange fnExactSidesIntoSpec)

/-- ITS FALSE NEIGHBOUR: 'it returns false'. Refute it at one input. -/
def fnExactSidesIntoWrong : ChangeSpec := { name := "fnExactSidesInto", fn := fun _ => fun
  | [d] => { results := [.lit (.bool false)], args := [d] }
  | _ => none }
def FnExactSidesIntoWrongFalsely : Prop := fnExactSidesIntoRow.holds Try.pinned (OpenSpec.ofChange fnExactSidesIntoWrong)

/-- 'laws.FnExactArisesBy': WHATEVER THE INPUT: true; the input reads as it did. -/
def fnExactArisesBySpec : ChangeSpec := { name := "fnExactArisesBy", fn := fun _ => fun
  | [d] => { results := [.lit (.bool true)], args := [d] }
  | _ => none }
def fnExactArisesByRow : OpenClaim := { program := "ytfbfemncflhnjaa", sum := "cccbc4a0c2da7e001000bc53bbb213d1e84530ae8c15dafcc46be71a0bb36b71", func := "loop.example/g01194/laws.FnExactArisesBy", spec := "fnExactArisesBy", unfollowed := true, recurses := true, plainKeys := false, apart := false }
def FnExactArisesBySaid : Prop := fnExactArisesByRow.holds Try.pinned (OpenSpec.ofChange fnExactArisesBySpec)

/-- ITS FALSE NEIGHBOUR: 'it returns false'. Refute it at one input. -/
def fnExactArisesByWrong : ChangeSpec := { name := "fnExactArisesBy", fn := fun _ => fun
  | [d] => { results := [.lit (.bool false)], args := [d] }
  | _ => none }
def FnExactArisesByWrongFalsely : Prop := fnExactArisesByRow.holds Try.pinned (OpenSpec.ofChange fnExactArisesByWrong)

/-- 'laws.FnExactCanMerge': WHATEVER THE INPUT: true; the input reads as it did. -/
def fnExactCanMergeSpec : ChangeSpec := { name := "fnExactCanMerge", fn := fun _ => fun
  | [d1, d2] => { results := [.lit (.bool true)], args := [d1, d2] }
  | _ => none }
def fnExactCanMergeRow : OpenClaim := { program := "ytfbfemncflhnjaa", sum := "cccbc4a0c2da7e001000bc53bbb213d1e84530ae8c15dafcc46be71a0bb36b71", func := "loop.example/g01194/laws.FnExactCanMerge", spec := "fnExactCanMerge", unfollowed := true, recurses := true, plainKeys := false, apart := false }
def FnExactCanMergeSaid : Prop := fnExactCanMergeRow.holds Try.pinned (OpenSpec.ofChange fnExactCanMergeSpec)

/-- ITS FALSE NEIGHBOUR: 'it returns false'. Refute it at one input. -/
def fnExactCanMergeWrong : ChangeSpec := { name := "fnExactCanMerge", fn := fun _ => fun
  | [d1, d2] => { results := [.lit (.bool false)], args := [d1, d2] }
  | _ => none }
def FnExactCanMergeWrongFalsely : Prop := fnExactCanMergeRow.holds Try.pinned (OpenSpec.ofChange fnExactCanMergeWrong)

/-- 'laws.FnExactMustMerge': WHATEVER THE INPUT: true; the input reads as it did. -/
def fnExactMustMergeSpec : ChangeSpec := { name := "fnExactMustMerge", fn := fun _ => fun
  | [d1, d2] => { results := [.lit (.bool true)], args := [d1, d2] }
  | _ => none }
def fnExactMustMergeRow : OpenClaim := { program := "ytfbfemncflhnjaa", sum := "cccbc4a0c2da7e001000bc53bbb213d1e84530ae8c15dafcc46be71a0bb36b71", func := "loop.example/g01194/laws.FnExactMustMerge", spec := "fnExactMustMerge", unfollowed := true, recurses := true, plainKeys := false, apart := false }
def FnExactMustMergeSaid : Prop := fnExactMustMergeRow.holds Try.pinned (OpenSpec.ofChange fnExactMustMergeSpec)

/-- ITS FALSE NEIGHBOUR: 'it returns false'. Refute it at one input. -/
def fnExactMustMergeWrong : ChangeSpec := { name := "fnExactMustMerge", fn := fun _ => fun
  | [d1, d2] => { results := [.lit (.bool false)], args := [d1, d2] }
  | _ => none }
def FnExactMustMergeWrongFalsely : Prop := fnExactMustMergeRow.holds Try.pinned (OpenSpec.ofChange fnExactMustMergeWrong)

/- THE SECOND FORM. 'bulk': how many values and letters a reading holds, each counted each time it is reached (what is shared counts as often as it is met; a slice's spare places count too). A statement '..UptoSaid' is the law's where the arguments, and the package variables that the reading takes, are together of bulk at most 1048576: NARROWER than '..Said'. Prove '..Said' where nothing that the law and all that it calls make is longer than what came in: it says more and counts as full. Else prove '..UptoSaid'. A law counts once. -/
mutual
def uptoBulk {H : Type} : DataW H → Nat
  | .lit (.string bytes) => bytes.length + 1
  | .lit _ => 1
  | .nil => 1
  | .ptr d => uptoBulk d + 1
  | .slice elems spare => uptoBulkAll elems + uptoBulkAll spare + 1
  | .agg parts => uptoBulkAll parts + 1
  | .iface _ d => uptoBulk d + 1
  | .map entries => uptoBulkEntries entries + 1
  | .held _ => 1
def uptoBulkAll {H : Type} : List (DataW H) → Nat
  | [] => 0
  | d :: r => uptoBulk d + uptoBulkAll r
def uptoBulkEntries {H : Type} : List (Lit × DataW H) → Nat
  | [] => 0
  | x :: r => uptoBulkEntry x + uptoBulkEntries r
def uptoBulkEntry {H : Type} : Lit × DataW H → Nat
  | (.string bytes, d) => bytes.length + uptoBulk d + 1
  | (_, d) => uptoBulk d + 1
 end
def uptoSmall : (H : Type) → List (DataW H) → Bool := fun _ ds => decide (uptoBulkAll ds ≤ 1048576)
def OpenSpec.upto (s : _root_.Go.ChangeSpec) : _root_.Go.OpenSpec := { _root_.Go.OpenSpec.ofChange s with cond := some uptoSmall }

/-- 'laws.FnExactWorstTile', WHERE WHAT IT READS IS OF BULK AT MOST 1048576: true; the input reads as it did. -/
def fnExactWorstTileUptoRow : OpenClaim := { program := "ytfbfemncflhnjaa", sum := "cccbc4a0c2da7e001000bc53bbb213d1e84530ae8c15dafcc46be71a0bb36b71", func := "loop.example/g01194/laws.FnExactWorstTile", spec := "fnExactWorstTile", unfollowed := true, recurses := true, plainKeys := false, apart := false, narrowed := true }
def FnExactWorstTileUptoSaid : Prop := fnExactWorstTileUptoRow.holds Try.pinned (OpenSpec.upto fnExactWorstTileSpec)

/-- 'laws.FnExactDoStep', WHERE WHAT IT READS IS OF BULK AT MOST 1048576: true; the input reads as it did. -/
def fnExactDoStepUptoRow : OpenClaim := { program := "ytfbfemncflhnjaa", sum := "cccbc4a0c2da7e001000bc53bbb213d1e84530ae8c15dafcc46be71a0bb36b71", func := "loop.example/g01194/laws.FnExactDoStep", spec := "fnExactDoStep", unfollowed := true, recurses := true, plainKeys := false, apart := false, narrowed := true }
def FnExactDoStepUptoSaid : Prop := fnExactDoStepUptoRow.holds Try.pinned (OpenSpec.upto fnExactDoStepSpec)

/-- 'laws.FnExactFewestSlides', WHERE WHAT IT READS IS OF BULK AT MOST 1048576: true; the input reads as it did. -/
def fnExactFewestSlidesUptoRow : OpenClaim := { program := "ytfbfemncflhnjaa", sum := "cccbc4a0c2da7e001000bc53bbb213d1e84530ae8c15dafcc46be71a0bb36b71", func := "loop.example/g01194/laws.FnExactFewestSlides", spec := "fnExactFewestSlides", unfollowed := true, recurses := true, plainKeys := false, apart := false, narrowed := true }
def FnExactFewestSlidesUptoSaid : Prop := fnExactFewestSlidesUptoRow.holds Try.pinned (OpenSpec.upto fnExactFewestSlidesSpec)

/-- 'laws.FnExactSureScore', WHERE WHAT IT READS IS OF BULK AT MOST 1048576: true; the input reads as it did. -/
def fnExactSureScoreUptoRow : OpenClaim := { program := "ytfbfemncflhnjaa", sum := "cccbc4a0c2da7e001000bc53bbb213d1e84530ae8c15dafcc46be71a0bb36b71", func := "loop.example/g01194/laws.FnExactSureScore", spec := "fnExactSureScore", unfollowed := true, recurses := true, plainKeys := false, apart := false, narrowed := true }
def FnExactSureScoreUptoSaid : Prop := fnExactSureScoreUptoRow.holds Try.pinned (OpenSpec.upto fnExactSureScoreSpec)

/-- 'laws.FnExactDeadPlaces', WHERE WHAT IT READS IS OF BULK AT MOST 1048576: true; the input reads as it did. -/
def fnExactDeadPlacesUptoRow : OpenClaim := { program := "ytfbfemncflhnjaa", sum := "cccbc4a0c2da7e001000bc53bbb213d1e84530ae8c15dafcc46be71a0bb36b71", func := "loop.example/g01194/laws.FnExactDeadPlaces", spec := "fnExactDeadPlaces", unfollowed := true, recurses := true, plainKeys := false, apart := false, narrowed := true }
def FnExactDeadPlacesUptoSaid : Prop := fnExactDeadPlacesUptoRow.holds Try.pinned (OpenSpec.upto fnExactDeadPlacesSpec)

/-- 'laws.FnExactLasts', WHERE WHAT IT READS IS OF BULK AT MOST 1048576: true; the input reads as it did. -/
def fnExactLastsUptoRow : OpenClaim := { program := "ytfbfemncflhnjaa", sum := "cccbc4a0c2da7e001000bc53bbb213d1e84530ae8c15dafcc46be71a0bb36b71", func := "loop.example/g01194/laws.FnExactLasts", spec := "fnExactLasts", unfollowed := true, recurses := true, plainKeys := false, apart := false, narrowed := true }
def FnExactLastsUptoSaid : Prop := fnExactLastsUptoRow.holds Try.pinned (OpenSpec.upto fnExactLastsSpec)

/-- 'laws.FnExactHighestBySlides', WHERE WHAT IT READS IS OF BULK AT MOST 1048576: true; the input reads as it did. -/
def fnExactHighestBySlidesUptoRow : OpenClaim := { program := "ytfbfemncflhnjaa", sum := "cccbc4a0c2da7e001000bc53bbb213d1e84530ae8c15dafcc46be71a0bb36b71", func := "loop.example/g01194/laws.FnExactHighestBySlides", spec := "fnExactHighestBySlides", unfollowed := true, recurses := true, plainKeys := false, apart := false, narrowed := true }
def FnExactHighestBySlidesUptoSaid : Prop := fnExactHighestBySlidesUptoRow.holds Try.pinned (OpenSpec.upto fnExactHighestBySlidesSpec)

/-- 'laws.FnExactStepsOf', WHERE WHAT IT READS IS OF BULK AT MOST 1048576: true; the input reads as it did. -/
def fnExactStepsOfUptoRow : OpenClaim := { program := "ytfbfemncflhnjaa", sum := "cccbc4a0c2da7e001000bc53bbb213d1e84530ae8c15dafcc46be71a0bb36b71", func := "loop.example/g01194/laws.FnExactStepsOf", spec := "fnExactStepsOf", unfollowed := true, recurses := true, plainKeys := false, apart := false, narrowed := true }
def FnExactStepsOfUptoSaid : Prop := fnExactStepsOfUptoRow.holds Try.pinned (OpenSpec.upto fnExactStepsOfSpec)

/-- 'laws.FnExactBestSure', WHERE WHAT IT READS IS OF BULK AT MOST 1048576: true; the input reads as it did. -/
def fnExactBestSureUptoRow : OpenClaim := { program := "ytfbfemncflhnjaa", sum := "cccbc4a0c2da7e001000bc53bbb213d1e84530ae8c15dafcc46be71a0bb36b71", func := "loop.example/g01194/laws.FnExactBestSure", spec := "fnExactBestSure", unfollowed := true, recurses := true, plainKeys := false, apart := false, narrowed := true }
def FnExactBestSureUptoSaid : Prop := fnExactBestSureUptoRow.holds Try.pinned (OpenSpec.upto fnExactBestSureSpec)

/-- 'laws.FnExactLastsHow', WHERE WHAT IT READS IS OF BULK AT MOST 1048576: true; the input reads as it did. -/
def fnExactLastsHowUptoRow : OpenClaim := { program := "ytfbfemncflhnjaa", sum := "cccbc4a0c2da7e001000bc53bbb213d1e84530ae8c15dafcc46be71a0bb36b71", func := "loop.example/g01194/laws.FnExactLastsHow", spec := "fnExactLastsHow", unfollowed := true, recurses := true, plainKeys := false, apart := false, narrowed := true }
def FnExactLastsHowUptoSaid : Prop := fnExactLastsHowUptoRow.holds Try.pinned (OpenSpec.upto fnExactLastsHowSpec)

/-- 'laws.FnExactRefuteMove', WHERE WHAT IT READS IS OF BULK AT MOST 1048576: true; the input reads as it did. -/
def fnExactRefuteMoveUptoRow : OpenClaim := { program := "ytfbfemncflhnjaa", sum := "cccbc4a0c2da7e001000bc53bbb213d1e84530ae8c15dafcc46be71a0bb36b71", func := "loop.example/g01194/laws.FnExactRefuteMove", spec := "fnExactRefuteMove", unfollowed := true, recurses := true, plainKeys := false, apart := false, narrowed := true }
def FnExactRefuteMoveUptoSaid : Prop := fnExactRefuteMoveUptoRow.holds Try.pinned (OpenSpec.upto fnExactRefuteMoveSpec)

/-- 'laws.FnExactWorstReply', WHERE WHAT IT READS IS OF BULK AT MOST 1048576: true; the input reads as it did. -/
def fnExactWorstReplyUptoRow : OpenClaim := { program := "ytfbfemncflhnjaa", sum := "cccbc4a0c2da7e001000bc53bbb213d1e84530ae8c15dafcc46be71a0bb36b71", func := "loop.example/g01194/laws.FnExactWorstReply", spec := "fnExactWorstReply", unfollowed := true, recurses := true, plainKeys := false, apart := false, narrowed := true }
def FnExactWorstReplyUptoSaid : Prop := fnExactWorstReplyUptoRow.holds Try.pinned (OpenSpec.upto fnExactWorstReplySpec)

/-- 'laws.FnExactIsTrapped', WHERE WHAT IT READS IS OF BULK AT MOST 1048576: true; the input reads as it did. -/
def fnExactIsTrappedUptoRow : OpenClaim := { program := "ytfbfemncflhnjaa", sum := "cccbc4a0c2da7e001000bc53bbb213d1e84530ae8c15dafcc46be71a0bb36b71", func := "loop.example/g01194/laws.FnExactIsTrapped", spec := "fnExactIsTrapped", unfollowed := true, recurses := true, plainKeys := false, apart := false, narrowed := true }
def FnExactIsTrappedUptoSaid : Prop := fnExactIsTrappedUptoRow.holds Try.pinned (OpenSpec.upto fnExactIsTrappedSpec)

/-- 'laws.FnExactCountNext', WHERE WHAT IT READS IS OF BULK AT MOST 1048576: true; the input reads as it did. -/
def fnExactCountNextUptoRow : OpenClaim := { program := "ytfbfemncflhnjaa", sum := "cccbc4a0c2da7e001000bc53bbb213d1e84530ae8c15dafcc46be71a0bb36b71", func := "loop.example/g01194/laws.FnExactCountNext", spec := "fnExactCountNext", unfollowed := true, recurses := true, plainKeys := false, apart := false, narrowed := true }
def FnExactCountNextUptoSaid : Prop := fnExactCountNextUptoRow.holds Try.pinned (OpenSpec.upto fnExactCountNextSpec)

/-- 'laws.FnExactSafeMoves', WHERE WHAT IT READS IS OF BULK AT MOST 1048576: true; the input reads as it did. -/
def fnExactSafeMovesUptoRow : OpenClaim := { program := "ytfbfemncflhnjaa", sum := "cccbc4a0c2da7e001000bc53bbb213d1e84530ae8c15dafcc46be71a0bb36b71", func := "loop.example/g01194/laws.FnExactSafeMoves", spec := "fnExactSafeMoves", unfollowed := true, recurses := true, plainKeys := false, apart := false, narrowed := true }
def FnExactSafeMovesUptoSaid : Prop := fnExactSafeMovesUptoRow.holds Try.pinned (OpenSpec.upto fnExactSafeMovesSpec)

/-- 'laws.FnExactFirstSlides', WHERE WHAT IT READS IS OF BULK AT MOST 1048576: true; the input reads as it did. -/
def fnExactFirstSlidesUptoRow : OpenClaim := { program := "ytfbfemncflhnjaa", sum := "cccbc4a0c2da7e001000bc53bbb213d1e84530ae8c15dafcc46be71a0bb36b71", func := "loop.example/g01194/laws.FnExactFirstSlides", spec := "fnExactFirstSlides", unfollowed := true, recurses := true, plainKeys := false, apart := false, narrowed := true }
def FnExactFirstSlidesUptoSaid : Prop := fnExactFirstSlidesUptoRow.holds Try.pinned (OpenSpec.upto fnExactFirstSlidesSpec)

/-- 'laws.FnExactChanceOfNext', WHERE WHAT IT READS IS OF BULK AT MOST 1048576: true; the input reads as it did. -/
def fnExactChanceOfNextUptoRow : OpenClaim := { program := "ytfbfemncflhnjaa", sum := "cccbc4a0c2da7e001000bc53bbb213d1e84530ae8c15dafcc46be71a0bb36b71", func := "loop.example/g01194/laws.FnExactChanceOfNext", spec := "fnExactChanceOfNext", unfollowed := true, recurses := true, plainKeys := false, apart := false, narrowed := true }
def FnExactChanceOfNextUptoSaid : Prop := fnExactChanceOfNextUptoRow.holds Try.pinned (OpenSpec.upto fnExactChanceOfNextSpec)

/-- 'laws.FnExactPlaySteps', WHERE WHAT IT READS IS OF BULK AT MOST 1048576: true; the input reads as it did. -/
def fnExactPlayStepsUptoRow : OpenClaim := { program := "ytfbfemncflhnjaa", sum := "cccbc4a0c2da7e001000bc53bbb213d1e84530ae8c15dafcc46be71a0bb36b71", func := "loop.example/g01194/laws.FnExactPlaySteps", spec := "fnExactPlaySteps", unfollowed := true, recurses := true, plainKeys := false, apart := false, narrowed := true }
def FnExactPlayStepsUptoSaid : Prop := fnExactPlayStepsUptoRow.holds Try.pinned (OpenSpec.upto fnExactPlayStepsSpec)

/-- 'laws.FnExactChanceOfTile', WHERE WHAT IT READS IS OF BULK AT MOST 1048576: true; the input reads as it did. -/
def fnExactChanceOfTileUptoRow : OpenClaim := { program := "ytfbfemncflhnjaa", sum := "cccbc4a0c2da7e001000bc53bbb213d1e84530ae8c15dafcc46be71a0bb36b71", func := "loop.example/g01194/laws.FnExactChanceOfTile", spec := "fnExactChanceOfTile", unfollowed := true, recurses := true, plainKeys := false, apart := false, narrowed := true }
def FnExactChanceOfTileUptoSaid : Prop := fnExactChanceOfTileUptoRow.holds Try.pinned (OpenSpec.upto fnExactChanceOfTileSpec)

/-- 'laws.FnExactMergeChance', WHERE WHAT IT READS IS OF BULK AT MOST 1048576: true; the input reads as it did. -/
def fnExactMergeChanceUptoRow : OpenClaim := { program := "ytfbfemncflhnjaa", sum := "cccbc4a0c2da7e001000bc53bbb213d1e84530ae8c15dafcc46be71a0bb36b71", func := "loop.example/g01194/laws.FnExactMergeChance", spec := "fnExactMergeChance", unfollowed := true, recurses := true, plainKeys := false, apart := false, narrowed := true }
def FnExactMergeChanceUptoSaid : Prop := fnExactMergeChanceUptoRow.holds Try.pinned (OpenSpec.upto fnExactMergeChanceSpec)

/-- 'laws.FnExactChanceOver', WHERE WHAT IT READS IS OF BULK AT MOST 1048576: true; the input reads as it did. -/
def fnExactChanceOverUptoRow : OpenClaim := { program := "ytfbfemncflhnjaa", sum := "cccbc4a0c2da7e001000bc53bbb213d1e84530ae8c15dafcc46be71a0bb36b71", func := "loop.example/g01194/laws.FnExactChanceOver", spec := "fnExactChanceOver", unfollowed := true, recurses := true, plainKeys := false, apart := false, narrowed := true }
def FnExactChanceOverUptoSaid : Prop := fnExactChanceOverUptoRow.holds Try.pinned (OpenSpec.upto fnExactChanceOverSpec)

/-- 'laws.FnExactMeanScore', WHERE WHAT IT READS IS OF BULK AT MOST 1048576: true; the input reads as it did. -/
def fnExactMeanScoreUptoRow : OpenClaim := { program := "ytfbfemncflhnjaa", sum := "cccbc4a0c2da7e001000bc53bbb213d1e84530ae8c15dafcc46be71a0bb36b71", func := "loop.example/g01194/laws.FnExactMeanScore", spec := "fnExactMeanScore", unfollowed := true, recurses := true, plainKeys := false, apart := false, narrowed := true }
def FnExactMeanScoreUptoSaid : Prop := fnExactMeanScoreUptoRow.holds Try.pinned (OpenSpec.upto fnExactMeanScoreSpec)

/-- 'laws.FnExactStepBetween', WHERE WHAT IT READS IS OF BULK AT MOST 1048576: true; the input reads as it did. -/
def fnExactStepBetweenUptoRow : OpenClaim := { program := "ytfbfemncflhnjaa", sum := "cccbc4a0c2da7e001000bc53bbb213d1e84530ae8c15dafcc46be71a0bb36b71", func := "loop.example/g01194/laws.FnExactStepBetween", spec := "fnExactStepBetween", unfollowed := true, recurses := true, plainKeys := false, apart := false, narrowed := true }
def FnExactStepBetweenUptoSaid : Prop := fnExactStepBetweenUptoRow.holds Try.pinned (OpenSpec.upto fnExactStepBetweenSpec)

/-- 'laws.FnExactFirstWell', WHERE WHAT IT READS IS OF BULK AT MOST 1048576: true; the input reads as it did. -/
def fnExactFirstWellUptoRow : OpenClaim := { program := "ytfbfemncflhnjaa", sum := "cccbc4a0c2da7e001000bc53bbb213d1e84530ae8c15dafcc46be71a0bb36b71", func := "loop.example/g01194/laws.FnExactFirstWell", spec := "fnExactFirstWell", unfollowed := true, recurses := true, plainKeys := false, apart := false, narrowed := true }
def FnExactFirstWellUptoSaid : Prop := fnExactFirstWellUptoRow.holds Try.pinned (OpenSpec.upto fnExactFirstWellSpec)

/-- 'laws.FnExactSnakeBoard', WHERE WHAT IT READS IS OF BULK AT MOST 1048576: true; the input reads as it did. -/
def fnExactSnakeBoardUptoRow : OpenClaim := { program := "ytfbfemncflhnjaa", sum := "cccbc4a0c2da7e001000bc53bbb213d1e84530ae8c15dafcc46be71a0bb36b71", func := "loop.example/g01194/laws.FnExactSnakeBoard", spec := "fnExactSnakeBoard", unfollowed := true, recurses := true, plainKeys := false, apart := false, narrowed := true }
def FnExactSnakeBoardUptoSaid : Prop := fnExactSnakeBoardUptoRow.holds Try.pinned (OpenSpec.upto fnExactSnakeBoardSpec)

/-- 'laws.FnExactReachBySlides', WHERE WHAT IT READS IS OF BULK AT MOST 1048576: true; the input reads as it did. -/
def fnExactReachBySlidesUptoRow : OpenClaim := { program := "ytfbfemncflhnjaa", sum := "cccbc4a0c2da7e001000bc53bbb213d1e84530ae8c15dafcc46be71a0bb36b71", func := "loop.example/g01194/laws.FnExactReachBySlides", spec := "fnExactReachBySlides", unfollowed := true, recurses := true, plainKeys := false, apart := false, narrowed := true }
def FnExactReachBySlidesUptoSaid : Prop := fnExactReachBySlidesUptoRow.holds Try.pinned (OpenSpec.upto fnExactReachBySlidesSpec)

/-- 'laws.FnExactCountBefore', WHERE WHAT IT READS IS OF BULK AT MOST 1048576: true; the input reads as it did. -/
def fnExactCountBeforeUptoRow : OpenClaim := { program := "ytfbfemncflhnjaa", sum := "cccbc4a0c2da7e001000bc53bbb213d1e84530ae8c15dafcc46be71a0bb36b71", func := "loop.example/g01194/laws.FnExactCountBefore", spec := "fnExactCountBefore", unfollowed := true, recurses := true, plainKeys := false, apart := false, narrowed := true }
def FnExactCountBeforeUptoSaid : Prop := fnExactCountBeforeUptoRow.holds Try.pinned (OpenSpec.upto fnExactCountBeforeSpec)

/-- 'laws.FnExactWaysInto', WHERE WHAT IT READS IS OF BULK AT MOST 1048576: true; the input reads as it did. -/
def fnExactWaysIntoUptoRow : OpenClaim := { program := "ytfbfemncflhnjaa", sum := "cccbc4a0c2da7e001000bc53bbb213d1e84530ae8c15dafcc46be71a0bb36b71", func := "loop.example/g01194/laws.FnExactWaysInto", spec := "fnExactWaysInto", unfollowed := true, recurses := true, plainKeys := false, apart := false, narrowed := true }
def FnExactWaysIntoUptoSaid : Prop := fnExactWaysIntoUptoRow.holds Try.pinned (OpenSpec.upto fnExactWaysIntoSpec)

/-- 'laws.FnExactIsMade', WHERE WHAT IT READS IS OF BULK AT MOST 1048576: true; the input reads as it did. -/
def fnExactIsMadeUptoRow : OpenClaim := { program := "ytfbfemncflhnjaa", sum := "cccbc4a0c2da7e001000bc53bbb213d1e84530ae8c15dafcc46be71a0bb36b71", func := "loop.example/g01194/laws.FnExactIsMade", spec := "fnExactIsMade", unfollowed := true, recurses := true, plainKeys := false, apart := false, narrowed := true }
def FnExactIsMadeUptoSaid : Prop := fnExactIsMadeUptoRow.holds Try.pinned (OpenSpec.upto fnExactIsMadeSpec)

/-- 'laws.FnExactMostBefore', WHERE WHAT IT READS IS OF BULK AT MOST 1048576: true; the input reads as it did. -/
def fnExactMostBeforeUptoRow : OpenClaim := { program := "ytfbfemncflhnjaa", sum := "cccbc4a0c2da7e001000bc53bbb213d1e84530ae8c15dafcc46be71a0bb36b71", func := "loop.example/g01194/laws.FnExactMostBefore", spec := "fnExactMostBefore", unfollowed := true, recurses := true, plainKeys := false, apart := false, narrowed := true }
def FnExactMostBeforeUptoSaid : Prop := fnExactMostBeforeUptoRow.holds Try.pinned (OpenSpec.upto fnExactMostBeforeSpec)

/-- 'laws.FnExactSidesInto', WHERE WHAT IT READS IS OF BULK AT MOST 1048576: true; the input reads as it did. -/
def fnExactSidesIntoUptoRow : OpenClaim := { program := "ytfbfemncflhnjaa", sum := "cccbc4a0c2da7e001000bc53bbb213d1e84530ae8c15dafcc46be71a0bb36b71", func := "loop.example/g01194/laws.FnExactSidesInto", spec := "fnExactSidesInto", unfollowed := true, recurses := true, plainKeys := false, apart := false, narrowed := true }
def FnExactSidesIntoUptoSaid : Prop := fnExactSidesIntoUptoRow.holds Try.pinned (OpenSpec.upto fnExactSidesIntoSpec)

/-- 'laws.FnExactArisesBy', WHERE WHAT IT READS IS OF BULK AT MOST 1048576: true; the input reads as it did. -/
def fnExactArisesByUptoRow : OpenClaim := { program := "ytfbfemncflhnjaa", sum := "cccbc4a0c2da7e001000bc53bbb213d1e84530ae8c15dafcc46be71a0bb36b71", func := "loop.example/g01194/laws.FnExactArisesBy", spec := "fnExactArisesBy", unfollowed := true, recurses := true, plainKeys := false, apart := false, narrowed := true }
def FnExactArisesByUptoSaid : Prop := fnExactArisesByUptoRow.holds Try.pinned (OpenSpec.upto fnExactArisesBySpec)

/-- 'laws.FnExactCanMerge', WHERE WHAT IT READS IS OF BULK AT MOST 1048576: true; the input reads as it did. -/
def fnExactCanMergeUptoRow : OpenClaim := { program := "ytfbfemncflhnjaa", sum := "cccbc4a0c2da7e001000bc53bbb213d1e84530ae8c15dafcc46be71a0bb36b71", func := "loop.example/g01194/laws.FnExactCanMerge", spec := "fnExactCanMerge", unfollowed := true, recurses := true, plainKeys := false, apart := false, narrowed := true }
def FnExactCanMergeUptoSaid : Prop := fnExactCanMergeUptoRow.holds Try.pinned (OpenSpec.upto fnExactCanMergeSpec)

/-- 'laws.FnExactMustMerge', WHERE WHAT IT READS IS OF BULK AT MOST 1048576: true; the input reads as it did. -/
def fnExactMustMergeUptoRow : OpenClaim := { program := "ytfbfemncflhnjaa", sum := "cccbc4a0c2da7e001000bc53bbb213d1e84530ae8c15dafcc46be71a0bb36b71", func := "loop.example/g01194/laws.FnExactMustMerge", spec := "fnExactMustMerge", unfollowed := true, recurses := true, plainKeys := false, apart := false, narrowed := true }
def FnExactMustMergeUptoSaid : Prop := fnExactMustMergeUptoRow.holds Try.pinned (OpenSpec.upto fnExactMustMergeSpec)

end Rows
end Go.Proofs.Ytfbfemncflhnjaa
