/-
  No cell of these rows narrows 'for every input' (looked for: loops, veiled, ifaces, maps, wideKeys, modest, calm, conditions, laid).
  DERIVED. THE GIVEN ROWS OF THIS SEAT. 23 by the template 'for every input the law returns true; each argument reads behind the call as it read before'; 0 by the template 'total and deterministic' (their statements: YtkpimjhacjfgfaaTotals.lean).
  GIVEN WITH THE SEED: the statements are not yours to turn. If you find one false, say at which input.
  Laid BY PROGRAM, IN A SANDBOX (cutbox-rows.mjs): the forced cells as the released guide's own fill.sh prints them over the translation 5cd747409a39b721… (all of the seat's roots in one cut). By AI agents, Wed Nov 11 2026. No macro, syntax, notation, axiom, sorry.
-/
import Derived.Test.YtkpimjhacjfgfaaChecked
import GoSem.Claim
import GoSem.ClaimJoined
import GoSem.ClaimMapViews
import Derived.JoinedTies
import Derived.KernelRfl
namespace Go.Proofs.Ytkpimjhacjfgfaa
/- THE CELL 'sum', in the pinned program and in every row, IS THE sha256 OF THE DUMP (.gsa) THAT YtkpimjhacjfgfaaProg.lean LOADS. Nothing in Lean hashes anything: it is a label: what it is worth is what the hold of that sum in a sandbox is worth. -/
noncomputable def Try.pinned : Pinned := { name := "ytkpimjhacjfgfaa", sum := "5cd747409a39b72123c1cb1cc9e94c845a7846f898469b9ded4615a7c292593a", checked := Try.checked }
namespace Rows
def none {H : Type} : Left H := { results := [], args := [] }

/-- 'laws.FnExactSameRoom': WHATEVER THE INPUT: true; the input reads as it did. -/
def fnExactSameRoomSpec : ChangeSpec := { name := "fnExactSameRoom", fn := fun _ => fun
  | [d1, d2] => { results := [.lit (.bool true)], args := [d1, d2] }
  | _ => none }
def fnExactSameRoomRow : OpenClaim := { program := "ytkpimjhacjfgfaa", sum := "5cd747409a39b72123c1cb1cc9e94c845a7846f898469b9ded4615a7c292593a", func := "loop.example/g01361/laws.FnExactSameRoom", spec := "fnExactSameRoom", plainKeys := false, apart := false }
def FnExactSameRoomSaid : Prop := fnExactSameRoomRow.holds Try.pinned (OpenSpec.ofChange fnExactSameRoomSpec)

/-- ITS FALSE NEIGHBOUR: 'it returns false'. Refute it at one input. -/
def fnExactSameRoomWrong : ChangeSpec := { name := "fnExactSameRoom", fn := fun _ => fun
  | [d1, d2] => { results := [.lit (.bool false)], args := [d1, d2] }
  | _ => none }
def FnExactSameRoomWrongFalsely : Prop := fnExactSameRoomRow.holds Try.pinned (OpenSpec.ofChange fnExactSameRoomWrong)

/-- 'laws.FnExactOpenRoom': WHATEVER THE INPUT: true; the input reads as it did. -/
def fnExactOpenRoomSpec : ChangeSpec := { name := "fnExactOpenRoom", fn := fun _ => fun
  | [d1, d2] => { results := [.lit (.bool true)], args := [d1, d2] }
  | _ => none }
def fnExactOpenRoomRow : OpenClaim := { program := "ytkpimjhacjfgfaa", sum := "5cd747409a39b72123c1cb1cc9e94c845a7846f898469b9ded4615a7c292593a", func := "loop.example/g01361/laws.FnExactOpenRoom", spec := "fnExactOpenRoom", plainKeys := false, apart := false }
def FnExactOpenRoomSaid : Prop := fnExactOpenRoomRow.holds Try.pinned (OpenSpec.ofChange fnExactOpenRoomSpec)

/-- ITS FALSE NEIGHBOUR: 'it returns false'. Refute it at one input. -/
def fnExactOpenRoomWrong : ChangeSpec := { name := "fnExactOpenRoom", fn := fun _ => fun
  | [d1, d2] => { results := [.lit (.bool false)], args := [d1, d2] }
  | _ => none }
def FnExactOpenRoomWrongFalsely : Prop := fnExactOpenRoomRow.holds Try.pinned (OpenSpec.ofChange fnExactOpenRoomWrong)

/-- 'laws.FnExactValidRoom': WHATEVER THE INPUT: true; the input reads as it did. -/
def fnExactValidRoomSpec : ChangeSpec := { name := "fnExactValidRoom", fn := fun _ => fun
  | [d] => { results := [.lit (.bool true)], args := [d] }
  | _ => none }
def fnExactValidRoomRow : OpenClaim := { program := "ytkpimjhacjfgfaa", sum := "5cd747409a39b72123c1cb1cc9e94c845a7846f898469b9ded4615a7c292593a", func := "loop.example/g01361/laws.FnExactValidRoom", spec := "fnExactValidRoom", plainKeys := false, apart := false }
def FnExactValidRoomSaid : Prop := fnExactValidRoomRow.holds Try.pinned (OpenSpec.ofChange fnExactValidRoomSpec)

/-- ITS FALSE NEIGHBOUR: 'it returns false'. Refute it at one input. -/
def fnExactValidRoomWrong : ChangeSpec := { name := "fnExactValidRoom", fn := fun _ => fun
  | [d] => { results := [.lit (.bool false)], args := [d] }
  | _ => none }
def FnExactValidRoomWrongFalsely : Prop := fnExactValidRoomRow.holds Try.pinned (OpenSpec.ofChange fnExactValidRoomWrong)

/-- 'laws.FnExactNextSpot': WHATEVER THE INPUT: true; the input reads as it did. -/
def fnExactNextSpotSpec : ChangeSpec := { name := "fnExactNextSpot", fn := fun _ => fun
  | [d1, d2] => { results := [.lit (.bool true)], args := [d1, d2] }
  | _ => none }
def fnExactNextSpotRow : OpenClaim := { program := "ytkpimjhacjfgfaa", sum := "5cd747409a39b72123c1cb1cc9e94c845a7846f898469b9ded4615a7c292593a", func := "loop.example/g01361/laws.FnExactNextSpot", spec := "fnExactNextSpot", plainKeys := false, apart := false }
def FnExactNextSpotSaid : Prop := fnExactNextSpotRow.holds Try.pinned (OpenSpec.ofChange fnExactNextSpotSpec)

/-- ITS FALSE NEIGHBOUR: 'it returns false'. Refute it at one input. -/
def fnExactNextSpotWrong : ChangeSpec := { name := "fnExactNextSpot", fn := fun _ => fun
  | [d1, d2] => { results := [.lit (.bool false)], args := [d1, d2] }
  | _ => none }
def FnExactNextSpotWrongFalsely : Prop := fnExactNextSpotRow.holds Try.pinned (OpenSpec.ofChange fnExactNextSpotWrong)

/-- 'laws.FnExactSideTo': WHATEVER THE INPUT: true; the input reads as it did. -/
def fnExactSideToSpec : ChangeSpec := { name := "fnExactSideTo", fn := fun _ => fun
  | [d1, d2] => { results := [.lit (.bool true)], args := [d1, d2] }
  | _ => none }
def fnExactSideToRow : OpenClaim := { program := "ytkpimjhacjfgfaa", sum := "5cd747409a39b72123c1cb1cc9e94c845a7846f898469b9ded4615a7c292593a", func := "loop.example/g01361/laws.FnExactSideTo", spec := "fnExactSideTo", plainKeys := false, apart := false }
def FnExactSideToSaid : Prop := fnExactSideToRow.holds Try.pinned (OpenSpec.ofChange fnExactSideToSpec)

/-- ITS FALSE NEIGHBOUR: 'it returns false'. Refute it at one input. -/
def fnExactSideToWrong : ChangeSpec := { name := "fnExactSideTo", fn := fun _ => fun
  | [d1, d2] => { results := [.lit (.bool false)], args := [d1, d2] }
  | _ => none }
def FnExactSideToWrongFalsely : Prop := fnExactSideToRow.holds Try.pinned (OpenSpec.ofChange fnExactSideToWrong)

/-- 'laws.FnExactIsFree': WHATEVER THE INPUT: true; the input reads as it did. -/
def fnExactIsFreeSpec : ChangeSpec := { name := "fnExactIsFree", fn := fun _ => fun
  | [d1, d2] => { results := [.lit (.bool true)], args := [d1, d2] }
  | _ => none }
def fnExactIsFreeRow : OpenClaim := { program := "ytkpimjhacjfgfaa", sum := "5cd747409a39b72123c1cb1cc9e94c845a7846f898469b9ded4615a7c292593a", func := "loop.example/g01361/laws.FnExactIsFree", spec := "fnExactIsFree", plainKeys := false, apart := false }
def FnExactIsFreeSaid : Prop := fnExactIsFreeRow.holds Try.pinned (OpenSpec.ofChange fnExactIsFreeSpec)

/-- ITS FALSE NEIGHBOUR: 'it returns false'. Refute it at one input. -/
def fnExactIsFreeWrong : ChangeSpec := { name := "fnExactIsFree", fn := fun _ => fun
  | [d1, d2] => { results := [.lit (.bool false)], args := [d1, d2] }
  | _ => none }
def FnExactIsFreeWrongFalsely : Prop := fnExactIsFreeRow.holds Try.pinned (OpenSpec.ofChange fnExactIsFreeWrong)

/-- 'laws.FnExactCountFree': WHATEVER THE INPUT: true; the input reads as it did. -/
def fnExactCountFreeSpec : ChangeSpec := { name := "fnExactCountFree", fn := fun _ => fun
  | [d] => { results := [.lit (.bool true)], args := [d] }
  | _ => none }
def fnExactCountFreeRow : OpenClaim := { program := "ytkpimjhacjfgfaa", sum := "5cd747409a39b72123c1cb1cc9e94c845a7846f898469b9ded4615a7c292593a", func := "loop.example/g01361/laws.FnExactCountFree", spec := "fnExactCountFree", unfollowed := true, recurses := true, plainKeys := false, apart := false }
def FnExactCountFreeSaid : Prop := fnExactCountFreeRow.holds Try.pinned (OpenSpec.ofChange fnExactCountFreeSpec)

/-- ITS FALSE NEIGHBOUR: 'it returns false'. Refute it at one input. -/
def fnExactCountFreeWrong : ChangeSpec := { name := "fnExactCountFree", fn := fun _ => fun
  | [d] => { results := [.lit (.bool false)], args := [d] }
  | _ => none }
def FnExactCountFreeWrongFalsely : Prop := fnExactCountFreeRow.holds Try.pinned (OpenSpec.ofChange fnExactCountFreeWrong)

/-- 'laws.FnExactRoomText': WHATEVER THE INPUT: true; the input reads as it did. -/
def fnExactRoomTextSpec : ChangeSpec := { name := "fnExactRoomText", fn := fun _ => fun
  | [d] => { results := [.lit (.bool true)], args := [d] }
  | _ => none }
def fnExactRoomTextRow : OpenClaim := { program := "ytkpimjhacjfgfaa", sum := "5cd747409a39b72123c1cb1cc9e94c845a7846f898469b9ded4615a7c292593a", func := "loop.example/g01361/laws.FnExactRoomText", spec := "fnExactRoomText", unfollowed := true, recurses := true, plainKeys := false, apart := false }
def FnExactRoomTextSaid : Prop := fnExactRoomTextRow.holds Try.pinned (OpenSpec.ofChange fnExactRoomTextSpec)

/-- ITS FALSE NEIGHBOUR: 'it returns false'. Refute it at one input. -/
def fnExactRoomTextWrong : ChangeSpec := { name := "fnExactRoomText", fn := fun _ => fun
  | [d] => { results := [.lit (.bool false)], args := [d] }
  | _ => none }
def FnExactRoomTextWrongFalsely : Prop := fnExactRoomTextRow.holds Try.pinned (OpenSpec.ofChange fnExactRoomTextWrong)

/-- 'laws.FnExactMirrorRoom': WHATEVER THE INPUT: true; the input reads as it did. -/
def fnExactMirrorRoomSpec : ChangeSpec := { name := "fnExactMirrorRoom", fn := fun _ => fun
  | [d] => { results := [.lit (.bool true)], args := [d] }
  | _ => none }
def fnExactMirrorRoomRow : OpenClaim := { program := "ytkpimjhacjfgfaa", sum := "5cd747409a39b72123c1cb1cc9e94c845a7846f898469b9ded4615a7c292593a", func := "loop.example/g01361/laws.FnExactMirrorRoom", spec := "fnExactMirrorRoom", unfollowed := true, recurses := true, plainKeys := false, apart := false }
def FnExactMirrorRoomSaid : Prop := fnExactMirrorRoomRow.holds Try.pinned (OpenSpec.ofChange fnExactMirrorRoomSpec)

/-- ITS FALSE NEIGHBOUR: 'it returns false'. Refute it at one input. -/
def fnExactMirrorRoomWrong : ChangeSpec := { name := "fnExactMirrorRoom", fn := fun _ => fun
  | [d] => { results := [.lit (.bool false)], args := [d] }
  | _ => none }
def FnExactMirrorRoomWrongFalsely : Prop := fnExactMirrorRoomRow.holds Try.pinned (OpenSpec.ofChange fnExactMirrorRoomWrong)

/-- 'laws.FnExactTurnRoom': WHATEVER THE INPUT: true; the input reads as it did. -/
def fnExactTurnRoomSpec : ChangeSpec := { name := "fnExactTurnRoom", fn := fun _ => fun
  | [d] => { results := [.lit (.bool true)], args := [d] }
  | _ => none }
def fnExactTurnRoomRow : OpenClaim := { program := "ytkpimjhacjfgfaa", sum := "5cd747409a39b72123c1cb1cc9e94c845a7846f898469b9ded4615a7c292593a", func := "loop.example/g01361/laws.FnExactTurnRoom", spec := "fnExactTurnRoom", unfollowed := true, recurses := true, plainKeys := false, apart := false }
def FnExactTurnRoomSaid : Prop := fnExactTurnRoomRow.holds Try.pinned (OpenSpec.ofChange fnExactTurnRoomSpec)

/-- ITS FALSE NEIGHBOUR: 'it returns false'. Refute it at one input. -/
def fnExactTurnRoomWrong : ChangeSpec := { name := "fnExactTurnRoom", fn := fun _ => fun
  | [d] => { results := [.lit (.bool false)], args := [d] }
  | _ => none }
def FnExactTurnRoomWrongFalsely : Prop := fnExactTurnRoomRow.holds Try.pinned (OpenSpec.ofChange fnExactTurnRoomWrong)

/-- 'laws.FnExactFreeCells': WHATEVER THE INPUT: true; the input reads as it did. -/
def fnExactFreeCellsSpec : ChangeSpec := { name := "fnExactFreeCells", fn := fun _ => fun
  | [d] => { results := [.lit (.bool true)], args := [d] }
  | _ => none }
def fnExactFreeCellsRow : OpenClaim := { program := "ytkpimjhacjfgfaa", sum := "5cd747409a39b72123c1cb1cc9e94c845a7846f898469b9ded4615a7c292593a", func := "loop.example/g01361/laws.FnExactFreeCells", spec := "fnExactFreeCells", unfollowed := true, recurses := true, plainKeys := false, apart := false }
def FnExactFreeCellsSaid : Prop := fnExactFreeCellsRow.holds Try.pinned (OpenSpec.ofChange fnExactFreeCellsSpec)

/-- ITS FALSE NEIGHBOUR: 'it returns false'. Refute it at one input. -/
def fnExactFreeCellsWrong : ChangeSpec := { name := "fnExactFreeCells", fn := fun _ => fun
  | [d] => { results := [.lit (.bool false)], args := [d] }
  | _ => none }
def FnExactFreeCellsWrongFalsely : Prop := fnExactFreeCellsRow.holds Try.pinned (OpenSpec.ofChange fnExactFreeCellsWrong)

/-- 'laws.FnExactSetWall': WHATEVER THE INPUT: true; the input reads as it did. -/
def fnExactSetWallSpec : ChangeSpec := { name := "fnExactSetWall", fn := fun _ => fun
  | [d1, d2, d3] => { results := [.lit (.bool true)], args := [d1, d2, d3] }
  | _ => none }
def fnExactSetWallRow : OpenClaim := { program := "ytkpimjhacjfgfaa", sum := "5cd747409a39b72123c1cb1cc9e94c845a7846f898469b9ded4615a7c292593a", func := "loop.example/g01361/laws.FnExactSetWall", spec := "fnExactSetWall", unfollowed := true, recurses := true, plainKeys := false, apart := false }
def FnExactSetWallSaid : Prop := fnExactSetWallRow.holds Try.pinned (OpenSpec.ofChange fnExactSetWallSpec)

/-- ITS FALSE NEIGHBOUR: 'it returns false'. Refute it at one input. -/
def fnExactSetWallWrong : ChangeSpec := { name := "fnExactSetWall", fn := fun _ => fun
  | [d1, d2, d3] => { results := [.lit (.bool false)], args := [d1, d2, d3] }
  | _ => none }
def FnExactSetWallWrongFalsely : Prop := fnExactSetWallRow.holds Try.pinned (OpenSpec.ofChange fnExactSetWallWrong)

/-- 'laws.FnExactRayFrom': WHATEVER THE INPUT: true; the input reads as it did. -/
def fnExactRayFromSpec : ChangeSpec := { name := "fnExactRayFrom", fn := fun _ => fun
  | [d1, d2, d3] => { results := [.lit (.bool true)], args := [d1, d2, d3] }
  | _ => none }
def fnExactRayFromRow : OpenClaim := { program := "ytkpimjhacjfgfaa", sum := "5cd747409a39b72123c1cb1cc9e94c845a7846f898469b9ded4615a7c292593a", func := "loop.example/g01361/laws.FnExactRayFrom", spec := "fnExactRayFrom", unfollowed := true, recurses := true, plainKeys := false, apart := false }
def FnExactRayFromSaid : Prop := fnExactRayFromRow.holds Try.pinned (OpenSpec.ofChange fnExactRayFromSpec)

/-- ITS FALSE NEIGHBOUR: 'it returns false'. Refute it at one input. -/
def fnExactRayFromWrong : ChangeSpec := { name := "fnExactRayFrom", fn := fun _ => fun
  | [d1, d2, d3] => { results := [.lit (.bool false)], args := [d1, d2, d3] }
  | _ => none }
def FnExactRayFromWrongFalsely : Prop := fnExactRayFromRow.holds Try.pinned (OpenSpec.ofChange fnExactRayFromWrong)

/-- 'laws.FnExactRaysFrom': WHATEVER THE INPUT: true; the input reads as it did. -/
def fnExactRaysFromSpec : ChangeSpec := { name := "fnExactRaysFrom", fn := fun _ => fun
  | [d1, d2] => { results := [.lit (.bool true)], args := [d1, d2] }
  | _ => none }
def fnExactRaysFromRow : OpenClaim := { program := "ytkpimjhacjfgfaa", sum := "5cd747409a39b72123c1cb1cc9e94c845a7846f898469b9ded4615a7c292593a", func := "loop.example/g01361/laws.FnExactRaysFrom", spec := "fnExactRaysFrom", unfollowed := true, recurses := true, plainKeys := false, apart := false }
def FnExactRaysFromSaid : Prop := fnExactRaysFromRow.holds Try.pinned (OpenSpec.ofChange fnExactRaysFromSpec)

/-- ITS FALSE NEIGHBOUR: 'it returns false'. Refute it at one input. -/
def fnExactRaysFromWrong : ChangeSpec := { name := "fnExactRaysFrom", fn := fun _ => fun
  | [d1, d2] => { results := [.lit (.bool false)], args := [d1, d2] }
  | _ => none }
def FnExactRaysFromWrongFalsely : Prop := fnExactRaysFromRow.holds Try.pinned (OpenSpec.ofChange fnExactRaysFromWrong)

/-- 'laws.FnExactBesideOf': WHATEVER THE INPUT: true; the input reads as it did. -/
def fnExactBesideOfSpec : ChangeSpec := { name := "fnExactBesideOf", fn := fun _ => fun
  | [d1, d2] => { results := [.lit (.bool true)], args := [d1, d2] }
  | _ => none }
def fnExactBesideOfRow : OpenClaim := { program := "ytkpimjhacjfgfaa", sum := "5cd747409a39b72123c1cb1cc9e94c845a7846f898469b9ded4615a7c292593a", func := "loop.example/g01361/laws.FnExactBesideOf", spec := "fnExactBesideOf", unfollowed := true, recurses := true, plainKeys := false, apart := false }
def FnExactBesideOfSaid : Prop := fnExactBesideOfRow.holds Try.pinned (OpenSpec.ofChange fnExactBesideOfSpec)

/-- ITS FALSE NEIGHBOUR: 'it returns false'. Refute it at one input. -/
def fnExactBesideOfWrong : ChangeSpec := { name := "fnExactBesideOf", fn := fun _ => fun
  | [d1, d2] => { results := [.lit (.bool false)], args := [d1, d2] }
  | _ => none }
def FnExactBesideOfWrongFalsely : Prop := fnExactBesideOfRow.holds Try.pinned (OpenSpec.ofChange fnExactBesideOfWrong)

/-- 'laws.FnExactStepsBetween': WHATEVER THE INPUT: true; the input reads as it did. -/
def fnExactStepsBetweenSpec : ChangeSpec := { name := "fnExactStepsBetween", fn := fun _ => fun
  | [d1, d2, d3] => { results := [.lit (.bool true)], args := [d1, d2, d3] }
  | _ => none }
def fnExactStepsBetweenRow : OpenClaim := { program := "ytkpimjhacjfgfaa", sum := "5cd747409a39b72123c1cb1cc9e94c845a7846f898469b9ded4615a7c292593a", func := "loop.example/g01361/laws.FnExactStepsBetween", spec := "fnExactStepsBetween", unfollowed := true, recurses := true, plainKeys := false, apart := false }
def FnExactStepsBetweenSaid : Prop := fnExactStepsBetweenRow.holds Try.pinned (OpenSpec.ofChange fnExactStepsBetweenSpec)

/-- ITS FALSE NEIGHBOUR: 'it returns false'. Refute it at one input. -/
def fnExactStepsBetweenWrong : ChangeSpec := { name := "fnExactStepsBetween", fn := fun _ => fun
  | [d1, d2, d3] => { results := [.lit (.bool false)], args := [d1, d2, d3] }
  | _ => none }
def FnExactStepsBetweenWrongFalsely : Prop := fnExactStepsBetweenRow.holds Try.pinned (OpenSpec.ofChange fnExactStepsBetweenWrong)

/-- 'laws.FnExactFarthestFrom': WHATEVER THE INPUT: true; the input reads as it did. -/
def fnExactFarthestFromSpec : ChangeSpec := { name := "fnExactFarthestFrom", fn := fun _ => fun
  | [d1, d2] => { results := [.lit (.bool true)], args := [d1, d2] }
  | _ => none }
def fnExactFarthestFromRow : OpenClaim := { program := "ytkpimjhacjfgfaa", sum := "5cd747409a39b72123c1cb1cc9e94c845a7846f898469b9ded4615a7c292593a", func := "loop.example/g01361/laws.FnExactFarthestFrom", spec := "fnExactFarthestFrom", unfollowed := true, recurses := true, plainKeys := false, apart := false }
def FnExactFarthestFromSaid : Prop := fnExactFarthestFromRow.holds Try.pinned (OpenSpec.ofChange fnExactFarthestFromSpec)

/-- ITS FALSE NEIGHBOUR: 'it returns false'. Refute it at one input. -/
def fnExactFarthestFromWrong : ChangeSpec := { name := "fnExactFarthestFrom", fn := fun _ => fun
  | [d1, d2] => { results := [.lit (.bool false)], args := [d1, d2] }
  | _ => none }
def FnExactFarthestFromWrongFalsely : Prop := fnExactFarthestFromRow.holds Try.pinned (OpenSpec.ofChange fnExactFarthestFromWrong)

/-- 'laws.FnExactPartOf': WHATEVER THE INPUT: true; the input reads as it did. -/
def fnExactPartOfSpec : ChangeSpec := { name := "fnExactPartOf", fn := fun _ => fun
  | [d1, d2] => { results := [.lit (.bool true)], args := [d1, d2] }
  | _ => none }
def fnExactPartOfRow : OpenClaim := { program := "ytkpimjhacjfgfaa", sum := "5cd747409a39b72123c1cb1cc9e94c845a7846f898469b9ded4615a7c292593a", func := "loop.example/g01361/laws.FnExactPartOf", spec := "fnExactPartOf", unfollowed := true, recurses := true, plainKeys := false, apart := false }
def FnExactPartOfSaid : Prop := fnExactPartOfRow.holds Try.pinned (OpenSpec.ofChange fnExactPartOfSpec)

/-- ITS FALSE NEIGHBOUR: 'it returns false'. Refute it at one input. -/
def fnExactPartOfWrong : ChangeSpec := { name := "fnExactPartOf", fn := fun _ => fun
  | [d1, d2] => { results := [.lit (.bool false)], args := [d1, d2] }
  | _ => none }
def FnExactPartOfWrongFalsely : Prop := fnExactPartOfRow.holds Try.pinned (OpenSpec.ofChange fnExactPartOfWrong)

/-- 'laws.FnExactWithinSteps': WHATEVER THE INPUT: true; the input reads as it did. -/
def fnExactWithinStepsSpec : ChangeSpec := { name := "fnExactWithinSteps", fn := fun _ => fun
  | [d1, d2, d3] => { results := [.lit (.bool true)], args := [d1, d2, d3] }
  | _ => none }
def fnExactWithinStepsRow : OpenClaim := { program := "ytkpimjhacjfgfaa", sum := "5cd747409a39b72123c1cb1cc9e94c845a7846f898469b9ded4615a7c292593a", func := "loop.example/g01361/laws.FnExactWithinSteps", spec := "fnExactWithinSteps", unfollowed := true, recurses := true, plainKeys := false, apart := false }
def FnExactWithinStepsSaid : Prop := fnExactWithinStepsRow.holds Try.pinned (OpenSpec.ofChange fnExactWithinStepsSpec)

/-- ITS FALSE NEIGHBOUR: 'it returns false'. Refute it at one input. -/
def fnExactWithinStepsWrong : ChangeSpec := { name := "fnExactWithinSteps", fn := fun _ => fun
  | [d1, d2, d3] => { results := [.lit (.bool false)], args := [d1, d2, d3] }
  | _ => none }
def FnExactWithinStepsWrongFalsely : Prop := fnExactWithinStepsRow.holds Try.pinned (OpenSpec.ofChange fnExactWithinStepsWrong)

/-- 'laws.FnExactNarrowCells': WHATEVER THE INPUT: true; the input reads as it did. -/
def fnExactNarrowCellsSpec : ChangeSpec := { name := "fnExactNarrowCells", fn := fun _ => fun
  | [d] => { results := [.lit (.bool true)], args := [d] }
  | _ => none }
def fnExactNarrowCellsRow : OpenClaim := { program := "ytkpimjhacjfgfaa", sum := "5cd747409a39b72123c1cb1cc9e94c845a7846f898469b9ded4615a7c292593a", func := "loop.example/g01361/laws.FnExactNarrowCells", spec := "fnExactNarrowCells", unfollowed := true, recurses := true, plainKeys := false, apart := false }
def FnExactNarrowCellsSaid : Prop := fnExactNarrowCellsRow.holds Try.pinned (OpenSpec.ofChange fnExactNarrowCellsSpec)

/-- ITS FALSE NEIGHBOUR: 'it returns false'. Refute it at one input. -/
def fnExactNarrowCellsWrong : ChangeSpec := { name := "fnExactNarrowCells", fn := fun _ => fun
  | [d] => { results := [.lit (.bool false)], args := [d] }
  | _ => none }
def FnExactNarrowCellsWrongFalsely : Prop := fnExactNarrowCellsRow.holds Try.pinned (OpenSpec.ofChange fnExactNarrowCellsWrong)

/-- 'laws.FnExactPartsOf': WHATEVER THE INPUT: true; the input reads as it did. -/
def fnExactPartsOfSpec : ChangeSpec := { name := "fnExactPartsOf", fn := fun _ => fun
  | [d] => { results := [.lit (.bool true)], args := [d] }
  | _ => none }
def fnExactPartsOfRow : OpenClaim := { program := "ytkpimjhacjfgfaa", sum := "5cd747409a39b72123c1cb1cc9e94c845a7846f898469b9ded4615a7c292593a", func := "loop.example/g01361/laws.FnExactPartsOf", spec := "fnExactPartsOf", unfollowed := true, recurses := true, plainKeys := false, apart := false }
def FnExactPartsOfSaid : Prop := fnExactPartsOfRow.holds Try.pinned (OpenSpec.ofChange fnExactPartsOfSpec)

/-- ITS FALSE NEIGHBOUR: 'it returns false'. Refute it at one input. -/
def fnExactPartsOfWrong : ChangeSpec := { name := "fnExactPartsOf", fn := fun _ => fun
  | [d] => { results := [.lit (.bool false)], args := [d] }
  | _ => none }
def FnExactPartsOfWrongFalsely : Prop := fnExactPartsOfRow.holds Try.pinned (OpenSpec.ofChange fnExactPartsOfWrong)

/-- 'laws.FnExactWayBetween': WHATEVER THE INPUT: true; the input reads as it did. -/
def fnExactWayBetweenSpec : ChangeSpec := { name := "fnExactWayBetween", fn := fun _ => fun
  | [d1, d2, d3] => { results := [.lit (.bool true)], args := [d1, d2, d3] }
  | _ => none }
def fnExactWayBetweenRow : OpenClaim := { program := "ytkpimjhacjfgfaa", sum := "5cd747409a39b72123c1cb1cc9e94c845a7846f898469b9ded4615a7c292593a", func := "loop.example/g01361/laws.FnExactWayBetween", spec := "fnExactWayBetween", unfollowed := true, recurses := true, plainKeys := false, apart := false }
def FnExactWayBetweenSaid : Prop := fnExactWayBetweenRow.holds Try.pinned (OpenSpec.ofChange fnExactWayBetweenSpec)

/-- ITS FALSE NEIGHBOUR: 'it returns false'. Refute it at one input. -/
def fnExactWayBetweenWrong : ChangeSpec := { name := "fnExactWayBetween", fn := fun _ => fun
  | [d1, d2, d3] => { results := [.lit (.bool false)], args := [d1, d2, d3] }
  | _ => none }
def FnExactWayBetweenWrongFalsely : Prop := fnExactWayBetweenRow.holds Try.pinned (OpenSpec.ofChange fnExactWayBetweenWrong)

/-- 'laws.FnWays': WHATEVER THE INPUT: true; the input reads as it did. -/
def fnWaysSpec : ChangeSpec := { name := "fnWays", fn := fun _ => fun
  | [d1, d2] => { results := [.lit (.bool true)], args := [d1, d2] }
  | _ => none }
def fnWaysRow : OpenClaim := { program := "ytkpimjhacjfgfaa", sum := "5cd747409a39b72123c1cb1cc9e94c845a7846f898469b9ded4615a7c292593a", func := "loop.example/g01361/laws.FnWays", spec := "fnWays", unfollowed := true, recurses := true, plainKeys := false, apart := false }
def FnWaysSaid : Prop := fnWaysRow.holds Try.pinned (OpenSpec.ofChange fnWaysSpec)

/-- ITS FALSE NEIGHBOUR: 'it returns false'. Refute it at one input. -/
def fnWaysWrong : ChangeSpec := { name := "fnWays", fn := fun _ => fun
  | [d1, d2] => { results := [.lit (.bool false)], args := [d1, d2] }
  | _ => none }
def FnWaysWrongFalsely : Prop := fnWaysRow.holds Try.pinned (OpenSpec.ofChange fnWaysWrong)

/- THE SECOND FORM. 'bulk': how many values and letters a reading holds, each counted each time it is reached (what is shared counts as often as it is met; a slice's spare places count too). A statement '..UptoSaid' is the law's where the arguments, and the package variables that the reading takes, are together of bulk at most 1048576: NARROWER than '..Said'. Prove '..Said' where nothing that the law and all that it calls make is longer than what came in: it says more and counts as full. Else prove '..UptoSaid'. A law counts once. -/
mutual
def uptoBulk {H : Type} : DataW H → Nat
  | .lit (.string bytes) => bytes.length + 1
  | .lit _ => 1
  | .nil => 1
  | .ptr d => uptoBulk d + 1
  | .slice elems spare => uptoBulkAll elems + uptoBulkAll spare + 1
  | .agg parts => uptoBulkAll parts + 1
  | .iface _ d => uptoBulk d + 1
  | .map entries => uptoBulkEntries entries + 1
  | .held _ => 1
def uptoBulkAll {H : Type} : List (DataW H) → Nat
  | [] => 0
  | d :: r => uptoBulk d + uptoBulkAll r
def uptoBulkEntries {H : Type} : List (Lit × DataW H) → Nat
  | [] => 0
  | x :: r => uptoBulkEntry x + uptoBulkEntries r
def uptoBulkEntry {H : Type} : Lit × DataW H → Nat
  | (.string bytes, d) => bytes.length + uptoBulk d + 1
  | (_, d) => uptoBulk d + 1
 end
def uptoSmall : (H : Type) → List (DataW H) → Bool := fun _ ds => decide (uptoBulkAll ds ≤ 1048576)
def OpenSpec.upto (s : _root_.Go.ChangeSpec) : _root_.Go.OpenSpec := { _root_.Go.OpenSpec.ofChange s with cond := some uptoSmall }

/-- 'laws.FnExactSameRoom', WHERE WHAT IT READS IS OF BULK AT MOST 1048576: true; the input reads as it did. -/
def fnExactSameRoomUptoRow : OpenClaim := { program := "ytkpimjhacjfgfaa", sum := "5cd747409a39b72123c1cb1cc9e94c845a7846f898469b9ded4615a7c292593a", func := "loop.example/g01361/laws.FnExactSameRoom", spec := "fnExactSameRoom", plainKeys := false, apart := false, narrowed := true }
def FnExactSameRoomUptoSaid : Prop := fnExactSameRoomUptoRow.holds Try.pinned (OpenSpec.upto fnExactSameRoomSpec)

/-- 'laws.FnExactOpenRoom', WHERE WHAT IT READS IS OF BULK AT MOST 1048576: true; the input reads as it did. -/
def fnExactOpenRoomUptoRow : OpenClaim := { program := "ytkpimjhacjfgfaa", sum := "5cd747409a39b72123c1cb1cc9e94c845a7846f898469b9ded4615a7c292593a", func := "loop.example/g01361/laws.FnExactOpenRoom", spec := "fnExactOpenRoom", plainKeys := false, apart := false, narrowed := true }
def FnExactOpenRoomUptoSaid : Prop := fnExactOpenRoomUptoRow.holds Try.pinned (OpenSpec.upto fnExactOpenRoomSpec)

/-- 'laws.FnExactValidRoom', WHERE WHAT IT READS IS OF BULK AT MOST 1048576: true; the input reads as it did. -/
def fnExactValidRoomUptoRow : OpenClaim := { program := "ytkpimjhacjfgfaa", sum := "5cd747409a39b72123c1cb1cc9e94c845a7846f898469b9ded4615a7c292593a", func := "loop.example/g01361/laws.FnExactValidRoom", spec := "fnExactValidRoom", plainKeys := false, apart := false, narrowed := true }
def FnExactValidRoomUptoSaid : Prop := fnExactValidRoomUptoRow.holds Try.pinned (OpenSpec.upto fnExactValidRoomSpec)

/-- 'laws.FnExactNextSpot', WHERE WHAT IT READS IS OF BULK AT MOST 1048576: true; the input reads as it did. -/
def fnExactNextSpotUptoRow : OpenClaim := { program := "ytkpimjhacjfgfaa", sum := "5cd747409a39b72123c1cb1cc9e94c845a7846f898469b9ded4615a7c292593a", func := "loop.example/g01361/laws.FnExactNextSpot", spec := "fnExactNextSpot", plainKeys := false, apart := false, narrowed := true }
def FnExactNextSpotUptoSaid : Prop := fnExactNextSpotUptoRow.holds Try.pinned (OpenSpec.upto fnExactNextSpotSpec)

/-- 'laws.FnExactSideTo', WHERE WHAT IT READS IS OF BULK AT MOST 1048576: true; the input reads as it did. -/
def fnExactSideToUptoRow : OpenClaim := { program := "ytkpimjhacjfgfaa", sum := "5cd747409a39b72123c1cb1cc9e94c845a7846f898469b9ded4615a7c292593a", func := "loop.example/g01361/laws.FnExactSideTo", spec := "fnExactSideTo", plainKeys := false, apart := false, narrowed := true }
def FnExactSideToUptoSaid : Prop := fnExactSideToUptoRow.holds Try.pinned (OpenSpec.upto fnExactSideToSpec)

/-- 'laws.FnExactIsFree', WHERE WHAT IT READS IS OF BULK AT MOST 1048576: true; the input reads as it did. -/
def fnExactIsFreeUptoRow : OpenClaim := { program := "ytkpimjhacjfgfaa", sum := "5cd747409a39b72123c1cb1cc9e94c845a7846f898469b9ded4615a7c292593a", func := "loop.example/g01361/laws.FnExactIsFree", spec := "fnExactIsFree", plainKeys := false, apart := false, narrowed := true }
def FnExactIsFreeUptoSaid : Prop := fnExactIsFreeUptoRow.holds Try.pinned (OpenSpec.upto fnExactIsFreeSpec)

/-- 'laws.FnExactCountFree', WHERE WHAT IT READS IS OF BULK AT MOST 1048576: true; the input reads as it did. -/
def fnExactCountFreeUptoRow : OpenClaim := { program := "ytkpimjhacjfgfaa", sum := "5cd747409a39b72123c1cb1cc9e94c845a7846f898469b9ded4615a7c292593a", func := "loop.example/g01361/laws.FnExactCountFree", spec := "fnExactCountFree", unfollowed := true, recurses := true, plainKeys := false, apart := false, narrowed := true }
def FnExactCountFreeUptoSaid : Prop := fnExactCountFreeUptoRow.holds Try.pinned (OpenSpec.upto fnExactCountFreeSpec)

/-- 'laws.FnExactRoomText', WHERE WHAT IT READS IS OF BULK AT MOST 1048576: true; the input reads as it did. -/
def fnExactRoomTextUptoRow : OpenClaim := { program := "ytkpimjhacjfgfaa", sum := "5cd747409a39b72123c1cb1cc9e94c845a7846f898469b9ded4615a7c292593a", func := "loop.example/g01361/laws.FnExactRoomText", spec := "fnExactRoomText", unfollowed := true, recurses := true, plainKeys := false, apart := false, narrowed := true }
def FnExactRoomTextUptoSaid : Prop := fnExactRoomTextUptoRow.holds Try.pinned (OpenSpec.upto fnExactRoomTextSpec)

/-- 'laws.FnExactMirrorRoom', WHERE WHAT IT READS IS OF BULK AT MOST 1048576: true; the input reads as it did. -/
def fnExactMirrorRoomUptoRow : OpenClaim := { program := "ytkpimjhacjfgfaa", sum := "5cd747409a39b72123c1cb1cc9e94c845a7846f898469b9ded4615a7c292593a", func := "loop.example/g01361/laws.FnExactMirrorRoom", spec := "fnExactMirrorRoom", unfollowed := true, recurses := true, plainKeys := false, apart := false, narrowed := true }
def FnExactMirrorRoomUptoSaid : Prop := fnExactMirrorRoomUptoRow.holds Try.pinned (OpenSpec.upto fnExactMirrorRoomSpec)

/-- 'laws.FnExactTurnRoom', WHERE WHAT IT READS IS OF BULK AT MOST 1048576: true; the input reads as it did. -/
def fnExactTurnRoomUptoRow : OpenClaim := { program := "ytkpimjhacjfgfaa", sum := "5cd747409a39b72123c1cb1cc9e94c845a7846f898469b9ded4615a7c292593a", func := "loop.example/g01361/laws.FnExactTurnRoom", spec := "fnExactTurnRoom", unfollowed := true, recurses := true, plainKeys := false, apart := false, narrowed := true }
def FnExactTurnRoomUptoSaid : Prop := fnExactTurnRoomUptoRow.holds Try.pinned (OpenSpec.upto fnExactTurnRoomSpec)

/-- 'laws.FnExactFreeCells', WHERE WHAT IT READS IS OF BULK AT MOST 1048576: true; the input reads as it did. -/
def fnExactFreeCellsUptoRow : OpenClaim := { program := "ytkpimjhacjfgfaa", sum := "5cd747409a39b72123c1cb1cc9e94c845a7846f898469b9ded4615a7c292593a", func := "loop.example/g01361/laws.FnExactFreeCells", spec := "fnExactFreeCells", unfollowed := true, recurses := true, plainKeys := false, apart := false, narrowed := true }
def FnExactFreeCellsUptoSaid : Prop := fnExactFreeCellsUptoRow.holds Try.pinned (OpenSpec.upto fnExactFreeCellsSpec)

/-- 'laws.FnExactSetWall', WHERE WHAT IT READS IS OF BULK AT MOST 1048576: true; the input reads as it did. -/
def fnExactSetWallUptoRow : OpenClaim := { program := "ytkpimjhacjfgfaa", sum := "5cd747409a39b72123c1cb1cc9e94c845a7846f898469b9ded4615a7c292593a", func := "loop.example/g01361/laws.FnExactSetWall", spec := "fnExactSetWall", unfollowed := true, recurses := true, plainKeys := false, apart := false, narrowed := true }
def FnExactSetWallUptoSaid : Prop := fnExactSetWallUptoRow.holds Try.pinned (OpenSpec.upto fnExactSetWallSpec)

/-- 'laws.FnExactRayFrom', WHERE WHAT IT READS IS OF BULK AT MOST 1048576: true; the input reads as it did. -/
def fnExactRayFromUptoRow : OpenClaim := { program := "ytkpimjhacjfgfaa", sum := "5cd747409a39b72123c1cb1cc9e94c845a7846f898469b9ded4615a7c292593a", func := "loop.example/g01361/laws.FnExactRayFrom", spec := "fnExactRayFrom", unfollowed := true, recurses := true, plainKeys := false, apart := false, narrowed := true }
def FnExactRayFromUptoSaid : Prop := fnExactRayFromUptoRow.holds Try.pinned (OpenSpec.upto fnExactRayFromSpec)

/-- 'laws.FnExactRaysFrom', WHERE WHAT IT READS IS OF BULK AT MOST 1048576: true; the input reads as it did. -/
def fnExactRaysFromUptoRow : OpenClaim := { program := "ytkpimjhacjfgfaa", sum := "5cd747409a39b72123c1cb1cc9e94c845a7846f898469b9ded4615a7c292593a", func := "loop.example/g01361/laws.FnExactRaysFrom", spec := "fnExactRaysFrom", unfollowed := true, recurses := true, plainKeys := false, apart := false, narrowed := true }
def FnExactRaysFromUptoSaid : Prop := fnExactRaysFromUptoRow.holds Try.pinned (OpenSpec.upto fnExactRaysFromSpec)

/-- 'laws.FnExactBesideOf', WHERE WHAT IT READS IS OF BULK AT MOST 1048576: true; the input reads as it did. -/
def fnExactBesideOfUptoRow : OpenClaim := { program := "ytkpimjhacjfgfaa", sum := "5cd747409a39b72123c1cb1cc9e94c845a7846f898469b9ded4615a7c292593a", func := "loop.example/g01361/laws.FnExactBesideOf", spec := "fnExactBesideOf", unfollowed := true, recurses := true, plainKeys := false, apart := false, narrowed := true }
def FnExactBesideOfUptoSaid : Prop := fnExactBesideOfUptoRow.holds Try.pinned (OpenSpec.upto fnExactBesideOfSpec)

/-- 'laws.FnExactStepsBetween', WHERE WHAT IT READS IS OF BULK AT MOST 1048576: true; the input reads as it did. -/
def fnExactStepsBetweenUptoRow : OpenClaim := { program := "ytkpimjhacjfgfaa", sum := "5cd747409a39b72123c1cb1cc9e94c845a7846f898469b9ded4615a7c292593a", func := "loop.example/g01361/laws.FnExactStepsBetween", spec := "fnExactStepsBetween", unfollowed := true, recurses := true, plainKeys := false, apart := false, narrowed := true }
def FnExactStepsBetweenUptoSaid : Prop := fnExactStepsBetweenUptoRow.holds Try.pinned (OpenSpec.upto fnExactStepsBetweenSpec)

/-- 'laws.FnExactFarthestFrom', WHERE WHAT IT READS IS OF BULK AT MOST 1048576: true; the input reads as it did. -/
def fnExactFarthestFromUptoRow : OpenClaim := { program := "ytkpimjhacjfgfaa", sum := "5cd747409a39b72123c1cb1cc9e94c845a7846f898469b9ded4615a7c292593a", func := "loop.example/g01361/laws.FnExactFarthestFrom", spec := "fnExactFarthestFrom", unfollowed := true, recurses := true, plainKeys := false, apart := false, narrowed := true }
def FnExactFarthestFromUptoSaid : Prop := fnExactFarthestFromUptoRow.holds Try.pinned (OpenSpec.upto fnExactFarthestFromSpec)

/-- 'laws.FnExactPartOf', WHERE WHAT IT READS IS OF BULK AT MOST 1048576: true; the input reads as it did. -/
def fnExactPartOfUptoRow : OpenClaim := { program := "ytkpimjhacjfgfaa", sum := "5cd747409a39b72123c1cb1cc9e94c845a7846f898469b9ded4615a7c292593a", func := "loop.example/g01361/laws.FnExactPartOf", spec := "fnExactPartOf", unfollowed := true, recurses := true, plainKeys := false, apart := false, narrowed := true }
def FnExactPartOfUptoSaid : Prop := fnExactPartOfUptoRow.holds Try.pinned (OpenSpec.upto fnExactPartOfSpec)

/-- 'laws.FnExactWithinSteps', WHERE WHAT IT READS IS OF BULK AT MOST 1048576: true; the input reads as it did. -/
def fnExactWithinStepsUptoRow : OpenClaim := { program := "ytkpimjhacjfgfaa", sum := "5cd747409a39b72123c1cb1cc9e94c845a7846f898469b9ded4615a7c292593a", func := "loop.example/g01361/laws.FnExactWithinSteps", spec := "fnExactWithinSteps", unfollowed := true, recurses := true, plainKeys := false, apart := false, narrowed := true }
def FnExactWithinStepsUptoSaid : Prop := fnExactWithinStepsUptoRow.holds Try.pinned (OpenSpec.upto fnExactWithinStepsSpec)

/-- 'laws.FnExactNarrowCells', WHERE WHAT IT READS IS OF BULK AT MOST 1048576: true; the input reads as it did. -/
def fnExactNarrowCellsUptoRow : OpenClaim := { program := "ytkpimjhacjfgfaa", sum := "5cd747409a39b72123c1cb1cc9e94c845a7846f898469b9ded4615a7c292593a", func := "loop.example/g01361/laws.FnExactNarrowCells", spec := "fnExactNarrowCells", unfollowed := true, recurses := true, plainKeys := false, apart := false, narrowed := true }
def FnExactNarrowCellsUptoSaid : Prop := fnExactNarrowCellsUptoRow.holds Try.pinned (OpenSpec.upto fnExactNarrowCellsSpec)

/-- 'laws.FnExactPartsOf', WHERE WHAT IT READS IS OF BULK AT MOST 1048576: true; the input reads as it did. -/
def fnExactPartsOfUptoRow : OpenClaim := { program := "ytkpimjhacjfgfaa", sum := "5cd747409a39b72123c1cb1cc9e94c845a7846f898469b9ded4615a7c292593a", func := "loop.example/g01361/laws.FnExactPartsOf", spec := "fnExactPartsOf", unfollowed := true, recurses := true, plainKeys := false, apart := false, narrowed := true }
def FnExactPartsOfUptoSaid : Prop := fnExactPartsOfUptoRow.holds Try.pinned (OpenSpec.upto fnExactPartsOfSpec)

/-- 'laws.FnExactWayBetween', WHERE WHAT IT READS IS OF BULK AT MOST 1048576: true; the input reads as it did. -/
def fnExactWayBetweenUptoRow : OpenClaim := { program := "ytkpimjhacjfgfaa", sum := "5cd747409a39b72123c1cb1cc9e94c845a7846f898469b9ded4615a7c292593a", func := "loop.example/g01361/laws.FnExactWayBetween", spec := "fnExactWayBetween", unfollowed := true, recurses := true, plainKeys := false, apart := false, narrowed := true }
def FnExactWayBetweenUptoSaid : Prop := fnExactWayBetweenUptoRow.holds Try.pinned (OpenSpec.upto fnExactWayBetweenSpec)

/-- 'laws.FnWays', WHERE WHAT IT READS IS OF BULK AT MOST 1048576: true; the input reads as it did. -/
def fnWaysUptoRow : OpenClaim := { program := "ytkpimjhacjfgfaa", sum := "5cd747409a39b72123c1cb1cc9e94c845a7846f898469b9ded4615a7c292593a", func := "loop.example/g01361/laws.FnWays", spec := "fnWays", unfollowed := true, recurses := true, plainKeys := false, apart := false, narrowed := true }
def FnWaysUptoSaid : Prop := fnWaysUptoRow.holds Try.pinned (OpenSpec.upto fnWaysSpec)

end Rows
end Go.Proofs.Ytkpimjhacjfgfaa
