/-
  No cell of these rows narrows 'for every input' (looked for: loops, veiled, ifaces, maps, wideKeys, modest, calm, conditions, laid).
  DERIVED. THE GIVEN ROWS OF THIS SEAT. 16 by the template 'for every input the law returns true; each argument reads behind the call as it read before'; 0 by the template 'total and deterministic' (their statements: YtohaokdgokknaaaTotals.lean).
  GIVEN WITH THE SEED: the statements are not yours to turn. If you find one false, say at which input.
  Laid BY PROGRAM, IN A SANDBOX (cutbox-rows.mjs): the forced cells as the released guide's own fill.sh prints them over the translation a6c99129d4d07c31… (all of the seat's roots in one cut). By AI agents, Wed Nov 11 2026. No macro, syntax, notation, axiom, sorry.
-/
import Derived.Test.YtohaokdgokknaaaChecked
import GoSem.Claim
import GoSem.ClaimJoined
import GoSem.ClaimMapViews
import Derived.JoinedTies
import Derived.KernelRfl
namespace Go.Proofs.Ytohaokdgokknaaa
/- THE CELL 'sum', in the pinned program and in every row, IS THE sha256 OF THE DUMP (.gsa) THAT YtohaokdgokknaaaProg.lean LOADS. Nothing in Lean hashes anything: it is a label: what it is worth is what the hold of that sum in a sandbox is worth. -/
noncomputable def Try.pinned : Pinned := { name := "ytohaokdgokknaaa", sum := "a6c99129d4d07c313702ec1dc17d14c3b39af1e1be41b8271889a0aafbdbb66d", checked := Try.checked }
namespace Rows
def none {H : Type} : Left H := { results := [], args := [] }

/-- 'laws.FnExactConstants': WHATEVER THE INPUT: true; the input reads as it did. -/
def fnExactConstantsSpec : ChangeSpec := { name := "fnExactConstants", fn := fun _ => fun
  | [] => { results := [.lit (.bool true)], args := [] }
  | _ => none }
def fnExactConstantsRow : OpenClaim := { program := "ytohaokdgokknaaa", sum := "a6c99129d4d07c313702ec1dc17d14c3b39af1e1be41b8271889a0aafbdbb66d", func := "loop.example/g01361/laws.FnExactConstants", spec := "fnExactConstants", apart := false }
def FnExactConstantsSaid : Prop := fnExactConstantsRow.holds Try.pinned (OpenSpec.ofChange fnExactConstantsSpec)

/-- ITS FALSE NEIGHBOUR: 'it returns false'. Refute it at one input. -/
def fnExactConstantsWrong : ChangeSpec := { name := "fnExactConstants", fn := fun _ => fun
  | [] => { results := [.lit (.bool false)], args := [] }
  | _ => none }
def FnExactConstantsWrongFalsely : Prop := fnExactConstantsRow.holds Try.pinned (OpenSpec.ofChange fnExactConstantsWrong)

/-- 'laws.FnExactCodeName': WHATEVER THE INPUT: true; the input reads as it did. -/
def fnExactCodeNameSpec : ChangeSpec := { name := "fnExactCodeName", fn := fun _ => fun
  | [d] => { results := [.lit (.bool true)], args := [d] }
  | _ => none }
def fnExactCodeNameRow : OpenClaim := { program := "ytohaokdgokknaaa", sum := "a6c99129d4d07c313702ec1dc17d14c3b39af1e1be41b8271889a0aafbdbb66d", func := "loop.example/g01361/laws.FnExactCodeName", spec := "fnExactCodeName", apart := false }
def FnExactCodeNameSaid : Prop := fnExactCodeNameRow.holds Try.pinned (OpenSpec.ofChange fnExactCodeNameSpec)

/-- ITS FALSE NEIGHBOUR: 'it returns false'. Refute it at one input. -/
def fnExactCodeNameWrong : ChangeSpec := { name := "fnExactCodeName", fn := fun _ => fun
  | [d] => { results := [.lit (.bool false)], args := [d] }
  | _ => none }
def FnExactCodeNameWrongFalsely : Prop := fnExactCodeNameRow.holds Try.pinned (OpenSpec.ofChange fnExactCodeNameWrong)

/-- 'laws.FnExactSameHolds': WHATEVER THE INPUT: true; the input reads as it did. -/
def fnExactSameHoldsSpec : ChangeSpec := { name := "fnExactSameHolds", fn := fun _ => fun
  | [d1, d2] => { results := [.lit (.bool true)], args := [d1, d2] }
  | _ => none }
def fnExactSameHoldsRow : OpenClaim := { program := "ytohaokdgokknaaa", sum := "a6c99129d4d07c313702ec1dc17d14c3b39af1e1be41b8271889a0aafbdbb66d", func := "loop.example/g01361/laws.FnExactSameHolds", spec := "fnExactSameHolds", apart := false }
def FnExactSameHoldsSaid : Prop := fnExactSameHoldsRow.holds Try.pinned (OpenSpec.ofChange fnExactSameHoldsSpec)

/-- ITS FALSE NEIGHBOUR: 'it returns false'. Refute it at one input. -/
def fnExactSameHoldsWrong : ChangeSpec := { name := "fnExactSameHolds", fn := fun _ => fun
  | [d1, d2] => { results := [.lit (.bool false)], args := [d1, d2] }
  | _ => none }
def FnExactSameHoldsWrongFalsely : Prop := fnExactSameHoldsRow.holds Try.pinned (OpenSpec.ofChange fnExactSameHoldsWrong)

/-- 'laws.FnExactSameRope': WHATEVER THE INPUT: true; the input reads as it did. -/
def fnExactSameRopeSpec : ChangeSpec := { name := "fnExactSameRope", fn := fun _ => fun
  | [d1, d2] => { results := [.lit (.bool true)], args := [d1, d2] }
  | _ => none }
def fnExactSameRopeRow : OpenClaim := { program := "ytohaokdgokknaaa", sum := "a6c99129d4d07c313702ec1dc17d14c3b39af1e1be41b8271889a0aafbdbb66d", func := "loop.example/g01361/laws.FnExactSameRope", spec := "fnExactSameRope", apart := false }
def FnExactSameRopeSaid : Prop := fnExactSameRopeRow.holds Try.pinned (OpenSpec.ofChange fnExactSameRopeSpec)

/-- ITS FALSE NEIGHBOUR: 'it returns false'. Refute it at one input. -/
def fnExactSameRopeWrong : ChangeSpec := { name := "fnExactSameRope", fn := fun _ => fun
  | [d1, d2] => { results := [.lit (.bool false)], args := [d1, d2] }
  | _ => none }
def FnExactSameRopeWrongFalsely : Prop := fnExactSameRopeRow.holds Try.pinned (OpenSpec.ofChange fnExactSameRopeWrong)

/-- 'laws.FnExactValidRope': WHATEVER THE INPUT: true; the input reads as it did. -/
def fnExactValidRopeSpec : ChangeSpec := { name := "fnExactValidRope", fn := fun _ => fun
  | [d] => { results := [.lit (.bool true)], args := [d] }
  | _ => none }
def fnExactValidRopeRow : OpenClaim := { program := "ytohaokdgokknaaa", sum := "a6c99129d4d07c313702ec1dc17d14c3b39af1e1be41b8271889a0aafbdbb66d", func := "loop.example/g01361/laws.FnExactValidRope", spec := "fnExactValidRope", apart := false }
def FnExactValidRopeSaid : Prop := fnExactValidRopeRow.holds Try.pinned (OpenSpec.ofChange fnExactValidRopeSpec)

/-- ITS FALSE NEIGHBOUR: 'it returns false'. Refute it at one input. -/
def fnExactValidRopeWrong : ChangeSpec := { name := "fnExactValidRope", fn := fun _ => fun
  | [d] => { results := [.lit (.bool false)], args := [d] }
  | _ => none }
def FnExactValidRopeWrongFalsely : Prop := fnExactValidRopeRow.holds Try.pinned (OpenSpec.ofChange fnExactValidRopeWrong)

/-- 'laws.FnExactEvenRope': WHATEVER THE INPUT: true; the input reads as it did. -/
def fnExactEvenRopeSpec : ChangeSpec := { name := "fnExactEvenRope", fn := fun _ => fun
  | [d1, d2] => { results := [.lit (.bool true)], args := [d1, d2] }
  | _ => none }
def fnExactEvenRopeRow : OpenClaim := { program := "ytohaokdgokknaaa", sum := "a6c99129d4d07c313702ec1dc17d14c3b39af1e1be41b8271889a0aafbdbb66d", func := "loop.example/g01361/laws.FnExactEvenRope", spec := "fnExactEvenRope", apart := false }
def FnExactEvenRopeSaid : Prop := fnExactEvenRopeRow.holds Try.pinned (OpenSpec.ofChange fnExactEvenRopeSpec)

/-- ITS FALSE NEIGHBOUR: 'it returns false'. Refute it at one input. -/
def fnExactEvenRopeWrong : ChangeSpec := { name := "fnExactEvenRope", fn := fun _ => fun
  | [d1, d2] => { results := [.lit (.bool false)], args := [d1, d2] }
  | _ => none }
def FnExactEvenRopeWrongFalsely : Prop := fnExactEvenRopeRow.holds Try.pinned (OpenSpec.ofChange fnExactEvenRopeWrong)

/-- 'laws.FnExactNearestKnot': WHATEVER THE INPUT: true; the input reads as it did. -/
def fnExactNearestKnotSpec : ChangeSpec := { name := "fnExactNearestKnot", fn := fun _ => fun
  | [d1, d2] => { results := [.lit (.bool true)], args := [d1, d2] }
  | _ => none }
def fnExactNearestKnotRow : OpenClaim := { program := "ytohaokdgokknaaa", sum := "a6c99129d4d07c313702ec1dc17d14c3b39af1e1be41b8271889a0aafbdbb66d", func := "loop.example/g01361/laws.FnExactNearestKnot", spec := "fnExactNearestKnot", apart := false }
def FnExactNearestKnotSaid : Prop := fnExactNearestKnotRow.holds Try.pinned (OpenSpec.ofChange fnExactNearestKnotSpec)

/-- ITS FALSE NEIGHBOUR: 'it returns false'. Refute it at one input. -/
def fnExactNearestKnotWrong : ChangeSpec := { name := "fnExactNearestKnot", fn := fun _ => fun
  | [d1, d2] => { results := [.lit (.bool false)], args := [d1, d2] }
  | _ => none }
def FnExactNearestKnotWrongFalsely : Prop := fnExactNearestKnotRow.holds Try.pinned (OpenSpec.ofChange fnExactNearestKnotWrong)

/-- 'laws.FnExactSpacingsOf': WHATEVER THE INPUT: true; the input reads as it did. -/
def fnExactSpacingsOfSpec : ChangeSpec := { name := "fnExactSpacingsOf", fn := fun _ => fun
  | [d] => { results := [.lit (.bool true)], args := [d] }
  | _ => none }
def fnExactSpacingsOfRow : OpenClaim := { program := "ytohaokdgokknaaa", sum := "a6c99129d4d07c313702ec1dc17d14c3b39af1e1be41b8271889a0aafbdbb66d", func := "loop.example/g01361/laws.FnExactSpacingsOf", spec := "fnExactSpacingsOf", apart := false }
def FnExactSpacingsOfSaid : Prop := fnExactSpacingsOfRow.holds Try.pinned (OpenSpec.ofChange fnExactSpacingsOfSpec)

/-- ITS FALSE NEIGHBOUR: 'it returns false'. Refute it at one input. -/
def fnExactSpacingsOfWrong : ChangeSpec := { name := "fnExactSpacingsOf", fn := fun _ => fun
  | [d] => { results := [.lit (.bool false)], args := [d] }
  | _ => none }
def FnExactSpacingsOfWrongFalsely : Prop := fnExactSpacingsOfRow.holds Try.pinned (OpenSpec.ofChange fnExactSpacingsOfWrong)

/-- 'laws.FnExactCutRope': WHATEVER THE INPUT: true; the input reads as it did. -/
def fnExactCutRopeSpec : ChangeSpec := { name := "fnExactCutRope", fn := fun _ => fun
  | [d1, d2] => { results := [.lit (.bool true)], args := [d1, d2] }
  | _ => none }
def fnExactCutRopeRow : OpenClaim := { program := "ytohaokdgokknaaa", sum := "a6c99129d4d07c313702ec1dc17d14c3b39af1e1be41b8271889a0aafbdbb66d", func := "loop.example/g01361/laws.FnExactCutRope", spec := "fnExactCutRope", apart := false }
def FnExactCutRopeSaid : Prop := fnExactCutRopeRow.holds Try.pinned (OpenSpec.ofChange fnExactCutRopeSpec)

/-- ITS FALSE NEIGHBOUR: 'it returns false'. Refute it at one input. -/
def fnExactCutRopeWrong : ChangeSpec := { name := "fnExactCutRope", fn := fun _ => fun
  | [d1, d2] => { results := [.lit (.bool false)], args := [d1, d2] }
  | _ => none }
def FnExactCutRopeWrongFalsely : Prop := fnExactCutRopeRow.holds Try.pinned (OpenSpec.ofChange fnExactCutRopeWrong)

/-- 'laws.FnExactValidHolds': WHATEVER THE INPUT: true; the input reads as it did. -/
def fnExactValidHoldsSpec : ChangeSpec := { name := "fnExactValidHolds", fn := fun _ => fun
  | [d1, d2] => { results := [.lit (.bool true)], args := [d1, d2] }
  | _ => none }
def fnExactValidHoldsRow : OpenClaim := { program := "ytohaokdgokknaaa", sum := "a6c99129d4d07c313702ec1dc17d14c3b39af1e1be41b8271889a0aafbdbb66d", func := "loop.example/g01361/laws.FnExactValidHolds", spec := "fnExactValidHolds", unfollowed := true, recurses := true, apart := false }
def FnExactValidHoldsSaid : Prop := fnExactValidHoldsRow.holds Try.pinned (OpenSpec.ofChange fnExactValidHoldsSpec)

/-- ITS FALSE NEIGHBOUR: 'it returns false'. Refute it at one input. -/
def fnExactValidHoldsWrong : ChangeSpec := { name := "fnExactValidHolds", fn := fun _ => fun
  | [d1, d2] => { results := [.lit (.bool false)], args := [d1, d2] }
  | _ => none }
def FnExactValidHoldsWrongFalsely : Prop := fnExactValidHoldsRow.holds Try.pinned (OpenSpec.ofChange fnExactValidHoldsWrong)

/-- 'laws.FnExactCloseUp': WHATEVER THE INPUT: true; the input reads as it did. -/
def fnExactCloseUpSpec : ChangeSpec := { name := "fnExactCloseUp", fn := fun _ => fun
  | [d1, d2] => { results := [.lit (.bool true)], args := [d1, d2] }
  | _ => none }
def fnExactCloseUpRow : OpenClaim := { program := "ytohaokdgokknaaa", sum := "a6c99129d4d07c313702ec1dc17d14c3b39af1e1be41b8271889a0aafbdbb66d", func := "loop.example/g01361/laws.FnExactCloseUp", spec := "fnExactCloseUp", unfollowed := true, recurses := true, apart := false }
def FnExactCloseUpSaid : Prop := fnExactCloseUpRow.holds Try.pinned (OpenSpec.ofChange fnExactCloseUpSpec)

/-- ITS FALSE NEIGHBOUR: 'it returns false'. Refute it at one input. -/
def fnExactCloseUpWrong : ChangeSpec := { name := "fnExactCloseUp", fn := fun _ => fun
  | [d1, d2] => { results := [.lit (.bool false)], args := [d1, d2] }
  | _ => none }
def FnExactCloseUpWrongFalsely : Prop := fnExactCloseUpRow.holds Try.pinned (OpenSpec.ofChange fnExactCloseUpWrong)

/-- 'laws.FnExactGapsOf': WHATEVER THE INPUT: true; the input reads as it did. -/
def fnExactGapsOfSpec : ChangeSpec := { name := "fnExactGapsOf", fn := fun _ => fun
  | [d1, d2] => { results := [.lit (.bool true)], args := [d1, d2] }
  | _ => none }
def fnExactGapsOfRow : OpenClaim := { program := "ytohaokdgokknaaa", sum := "a6c99129d4d07c313702ec1dc17d14c3b39af1e1be41b8271889a0aafbdbb66d", func := "loop.example/g01361/laws.FnExactGapsOf", spec := "fnExactGapsOf", unfollowed := true, recurses := true, apart := false }
def FnExactGapsOfSaid : Prop := fnExactGapsOfRow.holds Try.pinned (OpenSpec.ofChange fnExactGapsOfSpec)

/-- ITS FALSE NEIGHBOUR: 'it returns false'. Refute it at one input. -/
def fnExactGapsOfWrong : ChangeSpec := { name := "fnExactGapsOf", fn := fun _ => fun
  | [d1, d2] => { results := [.lit (.bool false)], args := [d1, d2] }
  | _ => none }
def FnExactGapsOfWrongFalsely : Prop := fnExactGapsOfRow.holds Try.pinned (OpenSpec.ofChange fnExactGapsOfWrong)

/-- 'laws.FnExactLetGo': WHATEVER THE INPUT: true; the input reads as it did. -/
def fnExactLetGoSpec : ChangeSpec := { name := "fnExactLetGo", fn := fun _ => fun
  | [d1, d2, d3] => { results := [.lit (.bool true)], args := [d1, d2, d3] }
  | _ => none }
def fnExactLetGoRow : OpenClaim := { program := "ytohaokdgokknaaa", sum := "a6c99129d4d07c313702ec1dc17d14c3b39af1e1be41b8271889a0aafbdbb66d", func := "loop.example/g01361/laws.FnExactLetGo", spec := "fnExactLetGo", unfollowed := true, recurses := true, apart := false }
def FnExactLetGoSaid : Prop := fnExactLetGoRow.holds Try.pinned (OpenSpec.ofChange fnExactLetGoSpec)

/-- ITS FALSE NEIGHBOUR: 'it returns false'. Refute it at one input. -/
def fnExactLetGoWrong : ChangeSpec := { name := "fnExactLetGo", fn := fun _ => fun
  | [d1, d2, d3] => { results := [.lit (.bool false)], args := [d1, d2, d3] }
  | _ => none }
def FnExactLetGoWrongFalsely : Prop := fnExactLetGoRow.holds Try.pinned (OpenSpec.ofChange fnExactLetGoWrong)

/-- 'laws.FnExactFirstFault': WHATEVER THE INPUT: true; the input reads as it did. -/
def fnExactFirstFaultSpec : ChangeSpec := { name := "fnExactFirstFault", fn := fun _ => fun
  | [d1, d2, d3] => { results := [.lit (.bool true)], args := [d1, d2, d3] }
  | _ => none }
def fnExactFirstFaultRow : OpenClaim := { program := "ytohaokdgokknaaa", sum := "a6c99129d4d07c313702ec1dc17d14c3b39af1e1be41b8271889a0aafbdbb66d", func := "loop.example/g01361/laws.FnExactFirstFault", spec := "fnExactFirstFault", unfollowed := true, recurses := true, apart := false }
def FnExactFirstFaultSaid : Prop := fnExactFirstFaultRow.holds Try.pinned (OpenSpec.ofChange fnExactFirstFaultSpec)

/-- ITS FALSE NEIGHBOUR: 'it returns false'. Refute it at one input. -/
def fnExactFirstFaultWrong : ChangeSpec := { name := "fnExactFirstFault", fn := fun _ => fun
  | [d1, d2, d3] => { results := [.lit (.bool false)], args := [d1, d2, d3] }
  | _ => none }
def FnExactFirstFaultWrongFalsely : Prop := fnExactFirstFaultRow.holds Try.pinned (OpenSpec.ofChange fnExactFirstFaultWrong)

/-- 'laws.FnExactCountAlong': WHATEVER THE INPUT: true; the input reads as it did. -/
def fnExactCountAlongSpec : ChangeSpec := { name := "fnExactCountAlong", fn := fun _ => fun
  | [d1, d2] => { results := [.lit (.bool true)], args := [d1, d2] }
  | _ => none }
def fnExactCountAlongRow : OpenClaim := { program := "ytohaokdgokknaaa", sum := "a6c99129d4d07c313702ec1dc17d14c3b39af1e1be41b8271889a0aafbdbb66d", func := "loop.example/g01361/laws.FnExactCountAlong", spec := "fnExactCountAlong", unfollowed := true, recurses := true, apart := false }
def FnExactCountAlongSaid : Prop := fnExactCountAlongRow.holds Try.pinned (OpenSpec.ofChange fnExactCountAlongSpec)

/-- ITS FALSE NEIGHBOUR: 'it returns false'. Refute it at one input. -/
def fnExactCountAlongWrong : ChangeSpec := { name := "fnExactCountAlong", fn := fun _ => fun
  | [d1, d2] => { results := [.lit (.bool false)], args := [d1, d2] }
  | _ => none }
def FnExactCountAlongWrongFalsely : Prop := fnExactCountAlongRow.holds Try.pinned (OpenSpec.ofChange fnExactCountAlongWrong)

/-- 'laws.FnExactCheckCount': WHATEVER THE INPUT: true; the input reads as it did. -/
def fnExactCheckCountSpec : ChangeSpec := { name := "fnExactCheckCount", fn := fun _ => fun
  | [d1, d2, d3] => { results := [.lit (.bool true)], args := [d1, d2, d3] }
  | _ => none }
def fnExactCheckCountRow : OpenClaim := { program := "ytohaokdgokknaaa", sum := "a6c99129d4d07c313702ec1dc17d14c3b39af1e1be41b8271889a0aafbdbb66d", func := "loop.example/g01361/laws.FnExactCheckCount", spec := "fnExactCheckCount", unfollowed := true, recurses := true, apart := false }
def FnExactCheckCountSaid : Prop := fnExactCheckCountRow.holds Try.pinned (OpenSpec.ofChange fnExactCheckCountSpec)

/-- ITS FALSE NEIGHBOUR: 'it returns false'. Refute it at one input. -/
def fnExactCheckCountWrong : ChangeSpec := { name := "fnExactCheckCount", fn := fun _ => fun
  | [d1, d2, d3] => { results := [.lit (.bool false)], args := [d1, d2, d3] }
  | _ => none }
def FnExactCheckCountWrongFalsely : Prop := fnExactCheckCountRow.holds Try.pinned (OpenSpec.ofChange fnExactCheckCountWrong)

/- THE SECOND FORM. 'bulk': how many values and letters a reading holds, each counted each time it is reached (what is shared counts as often as it is met; a slice's spare places count too). A statement '..UptoSaid' is the law's where the arguments, and the package variables that the reading takes, are together of bulk at most 1048576: NARROWER than '..Said'. Prove '..Said' where nothing that the law and all that it calls make is longer than what came in: it says more and counts as full. Else prove '..UptoSaid'. A law counts once. -/
mutual
def uptoBulk {H : Type} : DataW H → Nat
  | .lit (.string bytes) => bytes.length + 1
  | .lit _ => 1
  | .nil => 1
  | .ptr d => uptoBulk d + 1
  | .slice elems spare => uptoBulkAll elems + uptoBulkAll spare + 1
  | .agg parts => uptoBulkAll parts + 1
  | .iface _ d => uptoBulk d + 1
  | .map entries => uptoBulkEntries entries + 1
  | .held _ => 1
def uptoBulkAll {H : Type} : List (DataW H) → Nat
  | [] => 0
  | d :: r => uptoBulk d + uptoBulkAll r
def uptoBulkEntries {H : Type} : List (Lit × DataW H) → Nat
  | [] => 0
  | x :: r => uptoBulkEntry x + uptoBulkEntries r
def uptoBulkEntry {H : Type} : Lit × DataW H → Nat
  | (.string bytes, d) => bytes.length + uptoBulk d + 1
  | (_, d) => uptoBulk d + 1
 end
def uptoSmall : (H : Type) → List (DataW H) → Bool := fun _ ds => decide (uptoBulkAll ds ≤ 1048576)
def OpenSpec.upto (s : _root_.Go.ChangeSpec) : _root_.Go.OpenSpec := { _root_.Go.OpenSpec.ofChange s with cond := some uptoSmall }

/-- 'laws.FnExactConstants', WHERE WHAT IT READS IS OF BULK AT MOST 1048576: true; the input reads as it did. -/
def fnExactConstantsUptoRow : OpenClaim := { program := "ytohaokdgokknaaa", sum := "a6c99129d4d07c313702ec1dc17d14c3b39af1e1be41b8271889a0aafbdbb66d", func := "loop.example/g01361/laws.FnExactConstants", spec := "fnExactConstants", apart := false, narrowed := true }
def FnExactConstantsUptoSaid : Prop := fnExactConstantsUptoRow.holds Try.pinned (OpenSpec.upto fnExactConstantsSpec)

/-- 'laws.FnExactCodeName', WHERE WHAT IT READS IS OF BULK AT MOST 1048576: true; the input reads as it did. -/
def fnExactCodeNameUptoRow : OpenClaim := { program := "ytohaokdgokknaaa", sum := "a6c99129d4d07c313702ec1dc17d14c3b39af1e1be41b8271889a0aafbdbb66d", func := "loop.example/g01361/laws.FnExactCodeName", spec := "fnExactCodeName", apart := false, narrowed := true }
def FnExactCodeNameUptoSaid : Prop := fnExactCodeNameUptoRow.holds Try.pinned (OpenSpec.upto fnExactCodeNameSpec)

/-- 'laws.FnExactSameHolds', WHERE WHAT IT READS IS OF BULK AT MOST 1048576: true; the input reads as it did. -/
def fnExactSameHoldsUptoRow : OpenClaim := { program := "ytohaokdgokknaaa", sum := "a6c99129d4d07c313702ec1dc17d14c3b39af1e1be41b8271889a0aafbdbb66d", func := "loop.example/g01361/laws.FnExactSameHolds", spec := "fnExactSameHolds", apart := false, narrowed := true }
def FnExactSameHoldsUptoSaid : Prop := fnExactSameHoldsUptoRow.holds Try.pinned (OpenSpec.upto fnExactSameHoldsSpec)

/-- 'laws.FnExactSameRope', WHERE WHAT IT READS IS OF BULK AT MOST 1048576: true; the input reads as it did. -/
def fnExactSameRopeUptoRow : OpenClaim := { program := "ytohaokdgokknaaa", sum := "a6c99129d4d07c313702ec1dc17d14c3b39af1e1be41b8271889a0aafbdbb66d", func := "loop.example/g01361/laws.FnExactSameRope", spec := "fnExactSameRope", apart := false, narrowed := true }
def FnExactSameRopeUptoSaid : Prop := fnExactSameRopeUptoRow.holds Try.pinned (OpenSpec.upto fnExactSameRopeSpec)

/-- 'laws.FnExactValidRope', WHERE WHAT IT READS IS OF BULK AT MOST 1048576: true; the input reads as it did. -/
def fnExactValidRopeUptoRow : OpenClaim := { program := "ytohaokdgokknaaa", sum := "a6c99129d4d07c313702ec1dc17d14c3b39af1e1be41b8271889a0aafbdbb66d", func := "loop.example/g01361/laws.FnExactValidRope", spec := "fnExactValidRope", apart := false, narrowed := true }
def FnExactValidRopeUptoSaid : Prop := fnExactValidRopeUptoRow.holds Try.pinned (OpenSpec.upto fnExactValidRopeSpec)

/-- 'laws.FnExactEvenRope', WHERE WHAT IT READS IS OF BULK AT MOST 1048576: true; the input reads as it did. -/
def fnExactEvenRopeUptoRow : OpenClaim := { program := "ytohaokdgokknaaa", sum := "a6c99129d4d07c313702ec1dc17d14c3b39af1e1be41b8271889a0aafbdbb66d", func := "loop.example/g01361/laws.FnExactEvenRope", spec := "fnExactEvenRope", apart := false, narrowed := true }
def FnExactEvenRopeUptoSaid : Prop := fnExactEvenRopeUptoRow.holds Try.pinned (OpenSpec.upto fnExactEvenRopeSpec)

/-- 'laws.FnExactNearestKnot', WHERE WHAT IT READS IS OF BULK AT MOST 1048576: true; the input reads as it did. -/
def fnExactNearestKnotUptoRow : OpenClaim := { program := "ytohaokdgokknaaa", sum := "a6c99129d4d07c313702ec1dc17d14c3b39af1e1be41b8271889a0aafbdbb66d", func := "loop.example/g01361/laws.FnExactNearestKnot", spec := "fnExactNearestKnot", apart := false, narrowed := true }
def FnExactNearestKnotUptoSaid : Prop := fnExactNearestKnotUptoRow.holds Try.pinned (OpenSpec.upto fnExactNearestKnotSpec)

/-- 'laws.FnExactSpacingsOf', WHERE WHAT IT READS IS OF BULK AT MOST 1048576: true; the input reads as it did. -/
def fnExactSpacingsOfUptoRow : OpenClaim := { program := "ytohaokdgokknaaa", sum := "a6c99129d4d07c313702ec1dc17d14c3b39af1e1be41b8271889a0aafbdbb66d", func := "loop.example/g01361/laws.FnExactSpacingsOf", spec := "fnExactSpacingsOf", apart := false, narrowed := true }
def FnExactSpacingsOfUptoSaid : Prop := fnExactSpacingsOfUptoRow.holds Try.pinned (OpenSpec.upto fnExactSpacingsOfSpec)

/-- 'laws.FnExactCutRope', WHERE WHAT IT READS IS OF BULK AT MOST 1048576: true; the input reads as it did. -/
def fnExactCutRopeUptoRow : OpenClaim := { program := "ytohaokdgokknaaa", sum := "a6c99129d4d07c313702ec1dc17d14c3b39af1e1be41b8271889a0aafbdbb66d", func := "loop.example/g01361/laws.FnExactCutRope", spec := "fnExactCutRope", apart := false, narrowed := true }
def FnExactCutRopeUptoSaid : Prop := fnExactCutRopeUptoRow.holds Try.pinned (OpenSpec.upto fnExactCutRopeSpec)

/-- 'laws.FnExactValidHolds', WHERE WHAT IT READS IS OF BULK AT MOST 1048576: true; the input reads as it did. -/
def fnExactValidHoldsUptoRow : OpenClaim := { program := "ytohaokdgokknaaa", sum := "a6c99129d4d07c313702ec1dc17d14c3b39af1e1be41b8271889a0aafbdbb66d", func := "loop.example/g01361/laws.FnExactValidHolds", spec := "fnExactValidHolds", unfollowed := true, recurses := true, apart := false, narrowed := true }
def FnExactValidHoldsUptoSaid : Prop := fnExactValidHoldsUptoRow.holds Try.pinned (OpenSpec.upto fnExactValidHoldsSpec)

/-- 'laws.FnExactCloseUp', WHERE WHAT IT READS IS OF BULK AT MOST 1048576: true; the input reads as it did. -/
def fnExactCloseUpUptoRow : OpenClaim := { program := "ytohaokdgokknaaa", sum := "a6c99129d4d07c313702ec1dc17d14c3b39af1e1be41b8271889a0aafbdbb66d", func := "loop.example/g01361/laws.FnExactCloseUp", spec := "fnExactCloseUp", unfollowed := true, recurses := true, apart := false, narrowed := true }
def FnExactCloseUpUptoSaid : Prop := fnExactCloseUpUptoRow.holds Try.pinned (OpenSpec.upto fnExactCloseUpSpec)

/-- 'laws.FnExactGapsOf', WHERE WHAT IT READS IS OF BULK AT MOST 1048576: true; the input reads as it did. -/
def fnExactGapsOfUptoRow : OpenClaim := { program := "ytohaokdgokknaaa", sum := "a6c99129d4d07c313702ec1dc17d14c3b39af1e1be41b8271889a0aafbdbb66d", func := "loop.example/g01361/laws.FnExactGapsOf", spec := "fnExactGapsOf", unfollowed := true, recurses := true, apart := false, narrowed := true }
def FnExactGapsOfUptoSaid : Prop := fnExactGapsOfUptoRow.holds Try.pinned (OpenSpec.upto fnExactGapsOfSpec)

/-- 'laws.FnExactLetGo', WHERE WHAT IT READS IS OF BULK AT MOST 1048576: true; the input reads as it did. -/
def fnExactLetGoUptoRow : OpenClaim := { program := "ytohaokdgokknaaa", sum := "a6c99129d4d07c313702ec1dc17d14c3b39af1e1be41b8271889a0aafbdbb66d", func := "loop.example/g01361/laws.FnExactLetGo", spec := "fnExactLetGo", unfollowed := true, recurses := true, apart := false, narrowed := true }
def FnExactLetGoUptoSaid : Prop := fnExactLetGoUptoRow.holds Try.pinned (OpenSpec.upto fnExactLetGoSpec)

/-- 'laws.FnExactFirstFault', WHERE WHAT IT READS IS OF BULK AT MOST 1048576: true; the input reads as it did. -/
def fnExactFirstFaultUptoRow : OpenClaim := { program := "ytohaokdgokknaaa", sum := "a6c99129d4d07c313702ec1dc17d14c3b39af1e1be41b8271889a0aafbdbb66d", func := "loop.example/g01361/laws.FnExactFirstFault", spec := "fnExactFirstFault", unfollowed := true, recurses := true, apart := false, narrowed := true }
def FnExactFirstFaultUptoSaid : Prop := fnExactFirstFaultUptoRow.holds Try.pinned (OpenSpec.upto fnExactFirstFaultSpec)

/-- 'laws.FnExactCountAlong', WHERE WHAT IT READS IS OF BULK AT MOST 1048576: true; the input reads as it did. -/
def fnExactCountAlongUptoRow : OpenClaim := { program := "ytohaokdgokknaaa", sum := "a6c99129d4d07c313702ec1dc17d14c3b39af1e1be41b8271889a0aafbdbb66d", func := "loop.example/g01361/laws.FnExactCountAlong", spec := "fnExactCountAlong", unfollowed := true, recurses := true, apart := false, narrowed := true }
def FnExactCountAlongUptoSaid : Prop := fnExactCountAlongUptoRow.holds Try.pinned (OpenSpec.upto fnExactCountAlongSpec)

/-- 'laws.FnExactCheckCount', WHERE WHAT IT READS IS OF BULK AT MOST 1048576: true; the input reads as it did. -/
def fnExactCheckCountUptoRow : OpenClaim := { program := "ytohaokdgokknaaa", sum := "a6c99129d4d07c313702ec1dc17d14c3b39af1e1be41b8271889a0aafbdbb66d", func := "loop.example/g01361/laws.FnExactCheckCount", spec := "fnExactCheckCount", unfollowed := true, recurses := true, apart := false, narrowed := true }
def FnExactCheckCountUptoSaid : Prop := fnExactCheckCountUptoRow.holds Try.pinned (OpenSpec.upto fnExactCheckCountSpec)

end Rows
end Go.Proofs.Ytohaokdgokknaaa
