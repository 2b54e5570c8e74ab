/-
  No cell of these rows narrows 'for every input' (looked for: loops, veiled, ifaces, maps, wideKeys, modest, calm, conditions, laid).
  DERIVED. THE GIVEN ROWS OF THIS SEAT. 7 by the template 'for every input the law returns true; each argument reads behind the call as it read before'; 0 by the template 'total and deterministic' (their statements: YtkjmcolnoehjbaaTotals.lean).
  GIVEN WITH THE SEED: the statements are not yours to turn. If you find one false, say at which input.
  Laid BY PROGRAM, IN A SANDBOX (cutbox-rows.mjs): the forced cells as the released guide's own fill.sh prints them over the translation 4e8ac708c0d88367… (all of the seat's roots in one cut). By AI agents, Wed Nov 11 2026. No macro, syntax, notation, axiom, sorry.
-/
import Derived.Test.YtkjmcolnoehjbaaChecked
import GoSem.Claim
import GoSem.ClaimJoined
import GoSem.ClaimMapViews
import Derived.JoinedTies
import Derived.KernelRfl
namespace Go.Proofs.Ytkjmcolnoehjbaa
/- THE CELL 'sum', in the pinned program and in every row, IS THE sha256 OF THE DUMP (.gsa) THAT YtkjmcolnoehjbaaProg.lean LOADS. Nothing in Lean hashes anything: it is a label: what it is worth is what the hold of that sum in a sandbox is worth. -/
noncomputable def Try.pinned : Pinned := { name := "ytkjmcolnoehjbaa", sum := "4e8ac708c0d88367eb475f7b5495c2c11878f298cddc89d5d6b5b6394983a414", checked := Try.checked }
namespace Rows
def none {H : Type} : Left H := { results := [], args := [] }

/-- 'laws.FnExactStepsBetween': WHATEVER THE INPUT: true; the input reads as it did. -/
def fnExactStepsBetweenSpec : ChangeSpec := { name := "fnExactStepsBetween", fn := fun _ => fun
  | [d1, d2, d3] => { results := [.lit (.bool true)], args := [d1, d2, d3] }
  | _ => none }
def fnExactStepsBetweenRow : OpenClaim := { program := "ytkjmcolnoehjbaa", sum := "4e8ac708c0d88367eb475f7b5495c2c11878f298cddc89d5d6b5b6394983a414", func := "loop.example/g01361/laws.FnExactStepsBetween", spec := "fnExactStepsBetween", unfollowed := true, recurses := true, plainKeys := false, apart := false }
def FnExactStepsBetweenSaid : Prop := fnExactStepsBetweenRow.holds Try.pinned (OpenSpec.ofChange fnExactStepsBetweenSpec)

/-- ITS FALSE NEIGHBOUR: 'it returns false'. Refute it at one input. -/
def fnExactStepsBetweenWrong : ChangeSpec := { name := "fnExactStepsBetween", fn := fun _ => fun
  | [d1, d2, d3] => { results := [.lit (.bool false)], args := [d1, d2, d3] }
  | _ => none }
def FnExactStepsBetweenWrongFalsely : Prop := fnExactStepsBetweenRow.holds Try.pinned (OpenSpec.ofChange fnExactStepsBetweenWrong)

/-- 'laws.FnExactFarthestFrom': WHATEVER THE INPUT: true; the input reads as it did. -/
def fnExactFarthestFromSpec : ChangeSpec := { name := "fnExactFarthestFrom", fn := fun _ => fun
  | [d1, d2] => { results := [.lit (.bool true)], args := [d1, d2] }
  | _ => none }
def fnExactFarthestFromRow : OpenClaim := { program := "ytkjmcolnoehjbaa", sum := "4e8ac708c0d88367eb475f7b5495c2c11878f298cddc89d5d6b5b6394983a414", func := "loop.example/g01361/laws.FnExactFarthestFrom", spec := "fnExactFarthestFrom", unfollowed := true, recurses := true, plainKeys := false, apart := false }
def FnExactFarthestFromSaid : Prop := fnExactFarthestFromRow.holds Try.pinned (OpenSpec.ofChange fnExactFarthestFromSpec)

/-- ITS FALSE NEIGHBOUR: 'it returns false'. Refute it at one input. -/
def fnExactFarthestFromWrong : ChangeSpec := { name := "fnExactFarthestFrom", fn := fun _ => fun
  | [d1, d2] => { results := [.lit (.bool false)], args := [d1, d2] }
  | _ => none }
def FnExactFarthestFromWrongFalsely : Prop := fnExactFarthestFromRow.holds Try.pinned (OpenSpec.ofChange fnExactFarthestFromWrong)

/-- 'laws.FnExactPartOf': WHATEVER THE INPUT: true; the input reads as it did. -/
def fnExactPartOfSpec : ChangeSpec := { name := "fnExactPartOf", fn := fun _ => fun
  | [d1, d2] => { results := [.lit (.bool true)], args := [d1, d2] }
  | _ => none }
def fnExactPartOfRow : OpenClaim := { program := "ytkjmcolnoehjbaa", sum := "4e8ac708c0d88367eb475f7b5495c2c11878f298cddc89d5d6b5b6394983a414", func := "loop.example/g01361/laws.FnExactPartOf", spec := "fnExactPartOf", unfollowed := true, recurses := true, plainKeys := false, apart := false }
def FnExactPartOfSaid : Prop := fnExactPartOfRow.holds Try.pinned (OpenSpec.ofChange fnExactPartOfSpec)

/-- ITS FALSE NEIGHBOUR: 'it returns false'. Refute it at one input. -/
def fnExactPartOfWrong : ChangeSpec := { name := "fnExactPartOf", fn := fun _ => fun
  | [d1, d2] => { results := [.lit (.bool false)], args := [d1, d2] }
  | _ => none }
def FnExactPartOfWrongFalsely : Prop := fnExactPartOfRow.holds Try.pinned (OpenSpec.ofChange fnExactPartOfWrong)

/-- 'laws.FnExactWithinSteps': WHATEVER THE INPUT: true; the input reads as it did. -/
def fnExactWithinStepsSpec : ChangeSpec := { name := "fnExactWithinSteps", fn := fun _ => fun
  | [d1, d2, d3] => { results := [.lit (.bool true)], args := [d1, d2, d3] }
  | _ => none }
def fnExactWithinStepsRow : OpenClaim := { program := "ytkjmcolnoehjbaa", sum := "4e8ac708c0d88367eb475f7b5495c2c11878f298cddc89d5d6b5b6394983a414", func := "loop.example/g01361/laws.FnExactWithinSteps", spec := "fnExactWithinSteps", unfollowed := true, recurses := true, plainKeys := false, apart := false }
def FnExactWithinStepsSaid : Prop := fnExactWithinStepsRow.holds Try.pinned (OpenSpec.ofChange fnExactWithinStepsSpec)

/-- ITS FALSE NEIGHBOUR: 'it returns false'. Refute it at one input. -/
def fnExactWithinStepsWrong : ChangeSpec := { name := "fnExactWithinSteps", fn := fun _ => fun
  | [d1, d2, d3] => { results := [.lit (.bool false)], args := [d1, d2, d3] }
  | _ => none }
def FnExactWithinStepsWrongFalsely : Prop := fnExactWithinStepsRow.holds Try.pinned (OpenSpec.ofChange fnExactWithinStepsWrong)

/-- 'laws.FnExactNarrowCells': WHATEVER THE INPUT: true; the input reads as it did. -/
def fnExactNarrowCellsSpec : ChangeSpec := { name := "fnExactNarrowCells", fn := fun _ => fun
  | [d] => { results := [.lit (.bool true)], args := [d] }
  | _ => none }
def fnExactNarrowCellsRow : OpenClaim := { program := "ytkjmcolnoehjbaa", sum := "4e8ac708c0d88367eb475f7b5495c2c11878f298cddc89d5d6b5b6394983a414", func := "loop.example/g01361/laws.FnExactNarrowCells", spec := "fnExactNarrowCells", unfollowed := true, recurses := true, plainKeys := false, apart := false }
def FnExactNarrowCellsSaid : Prop := fnExactNarrowCellsRow.holds Try.pinned (OpenSpec.ofChange fnExactNarrowCellsSpec)

/-- ITS FALSE NEIGHBOUR: 'it returns false'. Refute it at one input. -/
def fnExactNarrowCellsWrong : ChangeSpec := { name := "fnExactNarrowCells", fn := fun _ => fun
  | [d] => { results := [.lit (.bool false)], args := [d] }
  | _ => none }
def FnExactNarrowCellsWrongFalsely : Prop := fnExactNarrowCellsRow.holds Try.pinned (OpenSpec.ofChange fnExactNarrowCellsWrong)

/-- 'laws.FnExactPartsOf': WHATEVER THE INPUT: true; the input reads as it did. -/
def fnExactPartsOfSpec : ChangeSpec := { name := "fnExactPartsOf", fn := fun _ => fun
  | [d] => { results := [.lit (.bool true)], args := [d] }
  | _ => none }
def fnExactPartsOfRow : OpenClaim := { program := "ytkjmcolnoehjbaa", sum := "4e8ac708c0d88367eb475f7b5495c2c11878f298cddc89d5d6b5b6394983a414", func := "loop.example/g01361/laws.FnExactPartsOf", spec := "fnExactPartsOf", unfollowed := true, recurses := true, plainKeys := false, apart := false }
def FnExactPartsOfSaid : Prop := fnExactPartsOfRow.holds Try.pinned (OpenSpec.ofChange fnExactPartsOfSpec)

/-- ITS FALSE NEIGHBOUR: 'it returns false'. Refute it at one input. -/
def fnExactPartsOfWrong : ChangeSpec := { name := "fnExactPartsOf", fn := fun _ => fun
  | [d] => { results := [.lit (.bool false)], args := [d] }
  | _ => none }
def FnExactPartsOfWrongFalsely : Prop := fnExactPartsOfRow.holds Try.pinned (OpenSpec.ofChange fnExactPartsOfWrong)

/-- 'laws.FnExactWayBetween': WHATEVER THE INPUT: true; the input reads as it did. -/
def fnExactWayBetweenSpec : ChangeSpec := { name := "fnExactWayBetween", fn := fun _ => fun
  | [d1, d2, d3] => { results := [.lit (.bool true)], args := [d1, d2, d3] }
  | _ => none }
def fnExactWayBetweenRow : OpenClaim := { program := "ytkjmcolnoehjbaa", sum := "4e8ac708c0d88367eb475f7b5495c2c11878f298cddc89d5d6b5b6394983a414", func := "loop.example/g01361/laws.FnExactWayBetween", spec := "fnExactWayBetween", unfollowed := true, recurses := true, plainKeys := false, apart := false }
def FnExactWayBetweenSaid : Prop := fnExactWayBetweenRow.holds Try.pinned (OpenSpec.ofChange fnExactWayBetweenSpec)

/-- ITS FALSE NEIGHBOUR: 'it returns false'. Refute it at one input. -/
def fnExactWayBetweenWrong : ChangeSpec := { name := "fnExactWayBetween", fn := fun _ => fun
  | [d1, d2, d3] => { results := [.lit (.bool false)], args := [d1, d2, d3] }
  | _ => none }
def FnExactWayBetweenWrongFalsely : Prop := fnExactWayBetweenRow.holds Try.pinned (OpenSpec.ofChange fnExactWayBetweenWrong)

/- THE SECOND FORM. 'bulk': how many values and letters a reading holds, each counted each time it is reached (what is shared counts as often as it is met; a slice's spare places count too). A statement '..UptoSaid' is the law's where the arguments, and the package variables that the reading takes, are together of bulk at most 1048576: NARROWER than '..Said'. Prove '..Said' where nothing that the law and all that it calls make is longer than what came in: it says more and counts as full. Else prove '..UptoSaid'. A law counts once. -/
mutual
def uptoBulk {H : Type} : DataW H → Nat
  | .lit (.string bytes) => bytes.length + 1
  | .lit _ => 1
  | .nil => 1
  | .ptr d => uptoBulk d + 1
  | .slice elems spare => uptoBulkAll elems + uptoBulkAll spare + 1
  | .agg parts => uptoBulkAll parts + 1
  | .iface _ d => uptoBulk d + 1
  | .map entries => uptoBulkEntries entries + 1
  | .held _ => 1
def uptoBulkAll {H : Type} : List (DataW H) → Nat
  | [] => 0
  | d :: r => uptoBulk d + uptoBulkAll r
def uptoBulkEntries {H : Type} : List (Lit × DataW H) → Nat
  | [] => 0
  | x :: r => uptoBulkEntry x + uptoBulkEntries r
def uptoBulkEntry {H : Type} : Lit × DataW H → Nat
  | (.string bytes, d) => bytes.length + uptoBulk d + 1
  | (_, d) => uptoBulk d + 1
 end
def uptoSmall : (H : Type) → List (DataW H) → Bool := fun _ ds => decide (uptoBulkAll ds ≤ 1048576)
def OpenSpec.upto (s : _root_.Go.ChangeSpec) : _root_.Go.OpenSpec := { _root_.Go.OpenSpec.ofChange s with cond := some uptoSmall }

/-- 'laws.FnExactStepsBetween', WHERE WHAT IT READS IS OF BULK AT MOST 1048576: true; the input reads as it did. -/
def fnExactStepsBetweenUptoRow : OpenClaim := { program := "ytkjmcolnoehjbaa", sum := "4e8ac708c0d88367eb475f7b5495c2c11878f298cddc89d5d6b5b6394983a414", func := "loop.example/g01361/laws.FnExactStepsBetween", spec := "fnExactStepsBetween", unfollowed := true, recurses := true, plainKeys := false, apart := false, narrowed := true }
def FnExactStepsBetweenUptoSaid : Prop := fnExactStepsBetweenUptoRow.holds Try.pinned (OpenSpec.upto fnExactStepsBetweenSpec)

/-- 'laws.FnExactFarthestFrom', WHERE WHAT IT READS IS OF BULK AT MOST 1048576: true; the input reads as it did. -/
def fnExactFarthestFromUptoRow : OpenClaim := { program := "ytkjmcolnoehjbaa", sum := "4e8ac708c0d88367eb475f7b5495c2c11878f298cddc89d5d6b5b6394983a414", func := "loop.example/g01361/laws.FnExactFarthestFrom", spec := "fnExactFarthestFrom", unfollowed := true, recurses := true, plainKeys := false, apart := false, narrowed := true }
def FnExactFarthestFromUptoSaid : Prop := fnExactFarthestFromUptoRow.holds Try.pinned (OpenSpec.upto fnExactFarthestFromSpec)

/-- 'laws.FnExactPartOf', WHERE WHAT IT READS IS OF BULK AT MOST 1048576: true; the input reads as it did. -/
def fnExactPartOfUptoRow : OpenClaim := { program := "ytkjmcolnoehjbaa", sum := "4e8ac708c0d88367eb475f7b5495c2c11878f298cddc89d5d6b5b6394983a414", func := "loop.example/g01361/laws.FnExactPartOf", spec := "fnExactPartOf", unfollowed := true, recurses := true, plainKeys := false, apart := false, narrowed := true }
def FnExactPartOfUptoSaid : Prop := fnExactPartOfUptoRow.holds Try.pinned (OpenSpec.upto fnExactPartOfSpec)

/-- 'laws.FnExactWithinSteps', WHERE WHAT IT READS IS OF BULK AT MOST 1048576: true; the input reads as it did. -/
def fnExactWithinStepsUptoRow : OpenClaim := { program := "ytkjmcolnoehjbaa", sum := "4e8ac708c0d88367eb475f7b5495c2c11878f298cddc89d5d6b5b6394983a414", func := "loop.example/g01361/laws.FnExactWithinSteps", spec := "fnExactWithinSteps", unfollowed := true, recurses := true, plainKeys := false, apart := false, narrowed := true }
def FnExactWithinStepsUptoSaid : Prop := fnExactWithinStepsUptoRow.holds Try.pinned (OpenSpec.upto fnExactWithinStepsSpec)

/-- 'laws.FnExactNarrowCells', WHERE WHAT IT READS IS OF BULK AT MOST 1048576: true; the input reads as it did. -/
def fnExactNarrowCellsUptoRow : OpenClaim := { program := "ytkjmcolnoehjbaa", sum := "4e8ac708c0d88367eb475f7b5495c2c11878f298cddc89d5d6b5b6394983a414", func := "loop.example/g01361/laws.FnExactNarrowCells", spec := "fnExactNarrowCells", unfollowed := true, recurses := true, plainKeys := false, apart := false, narrowed := true }
def FnExactNarrowCellsUptoSaid : Prop := fnExactNarrowCellsUptoRow.holds Try.pinned (OpenSpec.upto fnExactNarrowCellsSpec)

/-- 'laws.FnExactPartsOf', WHERE WHAT IT READS IS OF BULK AT MOST 1048576: true; the input reads as it did. -/
def fnExactPartsOfUptoRow : OpenClaim := { program := "ytkjmcolnoehjbaa", sum := "4e8ac708c0d88367eb475f7b5495c2c11878f298cddc89d5d6b5b6394983a414", func := "loop.example/g01361/laws.FnExactPartsOf", spec := "fnExactPartsOf", unfollowed := true, recurses := true, plainKeys := false, apart := false, narrowed := true }
def FnExactPartsOfUptoSaid : Prop := fnExactPartsOfUptoRow.holds Try.pinned (OpenSpec.upto fnExactPartsOfSpec)

/-- 'laws.FnExactWayBetween', WHERE WHAT IT READS IS OF BULK AT MOST 1048576: true; the input reads as it did. -/
def fnExactWayBetweenUptoRow : OpenClaim := { program := "ytkjmcolnoehjbaa", sum := "4e8ac708c0d88367eb475f7b5495c2c11878f298cddc89d5d6b5b6394983a414", func := "loop.example/g01361/laws.FnExactWayBetween", spec := "fnExactWayBetween", unfollowed := true, recurses := true, plainKeys := false, apart := false, narrowed := true }
def FnExactWayBetweenUptoSaid : Prop := fnExactWayBetweenUptoRow.holds Try.pinned (OpenSpec.upto fnExactWayBetweenSpec)

end Rows
end Go.Proofs.Ytkjmcolnoehjbaa
