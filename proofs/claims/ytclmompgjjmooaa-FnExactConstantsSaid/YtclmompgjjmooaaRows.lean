/-
  No cell of these rows narrows 'for every input' (looked for: loops, veiled, ifaces, maps, wideKeys, modest, calm, conditions, laid).
  DERIVED. THE GIVEN ROWS OF THIS SEAT. 8 by the template 'for every input the law returns true; each argument reads behind the call as it read before'; 0 by the template 'total and deterministic' (their statements: YtclmompgjjmooaaTotals.lean).
  GIVEN WITH THE SEED: the statements are not yours to turn. If you find one false, say at which input.
  Laid BY PROGRAM, IN A SANDBOX (cutbox-rows.mjs): the forced cells as the released guide's own fill.sh prints them over the translation 14e3918776d9d5ae… (all of the seat's roots in one cut). By AI agents, Wed Nov 11 2026. No macro, syntax, notation, axiom, sorry.
-/
import Derived.Test.YtclmompgjjmooaaChecked
import GoSem.Claim
import GoSem.ClaimJoined
import GoSem.ClaimMapViews
import Derived.JoinedTies
import Derived.KernelRfl
namespace Go.Proofs.Ytclmompgjjmooaa
/- THE CELL 'sum', in the pinned program and in every row, IS THE sha256 OF THE DUMP (.gsa) THAT YtclmompgjjmooaaProg.lean LOADS. Nothing in Lean hashes anything: it is a label: what it is worth is what the hold of that sum in a sandbox is worth. -/
noncomputable def Try.pinned : Pinned := { name := "ytclmompgjjmooaa", sum := "14e3918776d9d5ae288b8e812901261f1d7a0317b75b3219ca7d678eeba3714b", checked := Try.checked }
namespace Rows
def none {H : Type} : Left H := { results := [], args := [] }

/-- 'laws.FnExactConstants': WHATEVER THE INPUT: true; the input reads as it did. -/
def fnExactConstantsSpec : ChangeSpec := { name := "fnExactConstants", fn := fun _ => fun
  | [] => { results := [.lit (.bool true)], args := [] }
  | _ => none }
def fnExactConstantsRow : OpenClaim := { program := "ytclmompgjjmooaa", sum := "14e3918776d9d5ae288b8e812901261f1d7a0317b75b3219ca7d678eeba3714b", func := "loop.example/g01361/laws.FnExactConstants", spec := "fnExactConstants", apart := false }
def FnExactConstantsSaid : Prop := fnExactConstantsRow.holds Try.pinned (OpenSpec.ofChange fnExactConstantsSpec)

/-- ITS FALSE NEIGHBOUR: 'it returns false'. Refute it at one input. -/
def fnExactConstantsWrong : ChangeSpec := { name := "fnExactConstants", fn := fun _ => fun
  | [] => { results := [.lit (.bool false)], args := [] }
  | _ => none }
def FnExactConstantsWrongFalsely : Prop := fnExactConstantsRow.holds Try.pinned (OpenSpec.ofChange fnExactConstantsWrong)

/-- 'laws.FnExactSameRoom': WHATEVER THE INPUT: true; the input reads as it did. -/
def fnExactSameRoomSpec : ChangeSpec := { name := "fnExactSameRoom", fn := fun _ => fun
  | [d1, d2] => { results := [.lit (.bool true)], args := [d1, d2] }
  | _ => none }
def fnExactSameRoomRow : OpenClaim := { program := "ytclmompgjjmooaa", sum := "14e3918776d9d5ae288b8e812901261f1d7a0317b75b3219ca7d678eeba3714b", func := "loop.example/g01361/laws.FnExactSameRoom", spec := "fnExactSameRoom", apart := false }
def FnExactSameRoomSaid : Prop := fnExactSameRoomRow.holds Try.pinned (OpenSpec.ofChange fnExactSameRoomSpec)

/-- ITS FALSE NEIGHBOUR: 'it returns false'. Refute it at one input. -/
def fnExactSameRoomWrong : ChangeSpec := { name := "fnExactSameRoom", fn := fun _ => fun
  | [d1, d2] => { results := [.lit (.bool false)], args := [d1, d2] }
  | _ => none }
def FnExactSameRoomWrongFalsely : Prop := fnExactSameRoomRow.holds Try.pinned (OpenSpec.ofChange fnExactSameRoomWrong)

/-- 'laws.FnExactCodeName': WHATEVER THE INPUT: true; the input reads as it did. -/
def fnExactCodeNameSpec : ChangeSpec := { name := "fnExactCodeName", fn := fun _ => fun
  | [d] => { results := [.lit (.bool true)], args := [d] }
  | _ => none }
def fnExactCodeNameRow : OpenClaim := { program := "ytclmompgjjmooaa", sum := "14e3918776d9d5ae288b8e812901261f1d7a0317b75b3219ca7d678eeba3714b", func := "loop.example/g01361/laws.FnExactCodeName", spec := "fnExactCodeName", apart := false }
def FnExactCodeNameSaid : Prop := fnExactCodeNameRow.holds Try.pinned (OpenSpec.ofChange fnExactCodeNameSpec)

/-- ITS FALSE NEIGHBOUR: 'it returns false'. Refute it at one input. -/
def fnExactCodeNameWrong : ChangeSpec := { name := "fnExactCodeName", fn := fun _ => fun
  | [d] => { results := [.lit (.bool false)], args := [d] }
  | _ => none }
def FnExactCodeNameWrongFalsely : Prop := fnExactCodeNameRow.holds Try.pinned (OpenSpec.ofChange fnExactCodeNameWrong)

/-- 'laws.FnExactOpenRoom': WHATEVER THE INPUT: true; the input reads as it did. -/
def fnExactOpenRoomSpec : ChangeSpec := { name := "fnExactOpenRoom", fn := fun _ => fun
  | [d1, d2] => { results := [.lit (.bool true)], args := [d1, d2] }
  | _ => none }
def fnExactOpenRoomRow : OpenClaim := { program := "ytclmompgjjmooaa", sum := "14e3918776d9d5ae288b8e812901261f1d7a0317b75b3219ca7d678eeba3714b", func := "loop.example/g01361/laws.FnExactOpenRoom", spec := "fnExactOpenRoom", apart := false }
def FnExactOpenRoomSaid : Prop := fnExactOpenRoomRow.holds Try.pinned (OpenSpec.ofChange fnExactOpenRoomSpec)

/-- ITS FALSE NEIGHBOUR: 'it returns false'. Refute it at one input. -/
def fnExactOpenRoomWrong : ChangeSpec := { name := "fnExactOpenRoom", fn := fun _ => fun
  | [d1, d2] => { results := [.lit (.bool false)], args := [d1, d2] }
  | _ => none }
def FnExactOpenRoomWrongFalsely : Prop := fnExactOpenRoomRow.holds Try.pinned (OpenSpec.ofChange fnExactOpenRoomWrong)

/-- 'laws.FnExactValidRoom': WHATEVER THE INPUT: true; the input reads as it did. -/
def fnExactValidRoomSpec : ChangeSpec := { name := "fnExactValidRoom", fn := fun _ => fun
  | [d] => { results := [.lit (.bool true)], args := [d] }
  | _ => none }
def fnExactValidRoomRow : OpenClaim := { program := "ytclmompgjjmooaa", sum := "14e3918776d9d5ae288b8e812901261f1d7a0317b75b3219ca7d678eeba3714b", func := "loop.example/g01361/laws.FnExactValidRoom", spec := "fnExactValidRoom", apart := false }
def FnExactValidRoomSaid : Prop := fnExactValidRoomRow.holds Try.pinned (OpenSpec.ofChange fnExactValidRoomSpec)

/-- ITS FALSE NEIGHBOUR: 'it returns false'. Refute it at one input. -/
def fnExactValidRoomWrong : ChangeSpec := { name := "fnExactValidRoom", fn := fun _ => fun
  | [d] => { results := [.lit (.bool false)], args := [d] }
  | _ => none }
def FnExactValidRoomWrongFalsely : Prop := fnExactValidRoomRow.holds Try.pinned (OpenSpec.ofChange fnExactValidRoomWrong)

/-- 'laws.FnExactNextSpot': WHATEVER THE INPUT: true; the input reads as it did. -/
def fnExactNextSpotSpec : ChangeSpec := { name := "fnExactNextSpot", fn := fun _ => fun
  | [d1, d2] => { results := [.lit (.bool true)], args := [d1, d2] }
  | _ => none }
def fnExactNextSpotRow : OpenClaim := { program := "ytclmompgjjmooaa", sum := "14e3918776d9d5ae288b8e812901261f1d7a0317b75b3219ca7d678eeba3714b", func := "loop.example/g01361/laws.FnExactNextSpot", spec := "fnExactNextSpot", apart := false }
def FnExactNextSpotSaid : Prop := fnExactNextSpotRow.holds Try.pinned (OpenSpec.ofChange fnExactNextSpotSpec)

/-- ITS FALSE NEIGHBOUR: 'it returns false'. Refute it at one input. -/
def fnExactNextSpotWrong : ChangeSpec := { name := "fnExactNextSpot", fn := fun _ => fun
  | [d1, d2] => { results := [.lit (.bool false)], args := [d1, d2] }
  | _ => none }
def FnExactNextSpotWrongFalsely : Prop := fnExactNextSpotRow.holds Try.pinned (OpenSpec.ofChange fnExactNextSpotWrong)

/-- 'laws.FnExactSideTo': WHATEVER THE INPUT: true; the input reads as it did. -/
def fnExactSideToSpec : ChangeSpec := { name := "fnExactSideTo", fn := fun _ => fun
  | [d1, d2] => { results := [.lit (.bool true)], args := [d1, d2] }
  | _ => none }
def fnExactSideToRow : OpenClaim := { program := "ytclmompgjjmooaa", sum := "14e3918776d9d5ae288b8e812901261f1d7a0317b75b3219ca7d678eeba3714b", func := "loop.example/g01361/laws.FnExactSideTo", spec := "fnExactSideTo", apart := false }
def FnExactSideToSaid : Prop := fnExactSideToRow.holds Try.pinned (OpenSpec.ofChange fnExactSideToSpec)

/-- ITS FALSE NEIGHBOUR: 'it returns false'. Refute it at one input. -/
def fnExactSideToWrong : ChangeSpec := { name := "fnExactSideTo", fn := fun _ => fun
  | [d1, d2] => { results := [.lit (.bool false)], args := [d1, d2] }
  | _ => none }
def FnExactSideToWrongFalsely : Prop := fnExactSideToRow.holds Try.pinned (OpenSpec.ofChange fnExactSideToWrong)

/-- 'laws.FnExactIsFree': WHATEVER THE INPUT: true; the input reads as it did. -/
def fnExactIsFreeSpec : ChangeSpec := { name := "fnExactIsFree", fn := fun _ => fun
  | [d1, d2] => { results := [.lit (.bool true)], args := [d1, d2] }
  | _ => none }
def fnExactIsFreeRow : OpenClaim := { program := "ytclmompgjjmooaa", sum := "14e3918776d9d5ae288b8e812901261f1d7a0317b75b3219ca7d678eeba3714b", func := "loop.example/g01361/laws.FnExactIsFree", spec := "fnExactIsFree", apart := false }
def FnExactIsFreeSaid : Prop := fnExactIsFreeRow.holds Try.pinned (OpenSpec.ofChange fnExactIsFreeSpec)

/-- ITS FALSE NEIGHBOUR: 'it returns false'. Refute it at one input. -/
def fnExactIsFreeWrong : ChangeSpec := { name := "fnExactIsFree", fn := fun _ => fun
  | [d1, d2] => { results := [.lit (.bool false)], args := [d1, d2] }
  | _ => none }
def FnExactIsFreeWrongFalsely : Prop := fnExactIsFreeRow.holds Try.pinned (OpenSpec.ofChange fnExactIsFreeWrong)

/- THE SECOND FORM. 'bulk': how many values and letters a reading holds, each counted each time it is reached (what is shared counts as often as it is met; a slice's spare places count too). A statement '..UptoSaid' is the law's where the arguments, and the package variables that the reading takes, are together of bulk at most 1048576: NARROWER than '..Said'. Prove '..Said' where nothing that the law and all that it calls make is longer than what came in: it says more and counts as full. Else prove '..UptoSaid'. A law counts once. -/
mutual
def uptoBulk {H : Type} : DataW H → Nat
  | .lit (.string bytes) => bytes.length + 1
  | .lit _ => 1
  | .nil => 1
  | .ptr d => uptoBulk d + 1
  | .slice elems spare => uptoBulkAll elems + uptoBulkAll spare + 1
  | .agg parts => uptoBulkAll parts + 1
  | .iface _ d => uptoBulk d + 1
  | .map entries => uptoBulkEntries entries + 1
  | .held _ => 1
def uptoBulkAll {H : Type} : List (DataW H) → Nat
  | [] => 0
  | d :: r => uptoBulk d + uptoBulkAll r
def uptoBulkEntries {H : Type} : List (Lit × DataW H) → Nat
  | [] => 0
  | x :: r => uptoBulkEntry x + uptoBulkEntries r
def uptoBulkEntry {H : Type} : Lit × DataW H → Nat
  | (.string bytes, d) => bytes.length + uptoBulk d + 1
  | (_, d) => uptoBulk d + 1
 end
def uptoSmall : (H : Type) → List (DataW H) → Bool := fun _ ds => decide (uptoBulkAll ds ≤ 1048576)
def OpenSpec.upto (s : _root_.Go.ChangeSpec) : _root_.Go.OpenSpec := { _root_.Go.OpenSpec.ofChange s with cond := some uptoSmall }

/-- 'laws.FnExactConstants', WHERE WHAT IT READS IS OF BULK AT MOST 1048576: true; the input reads as it did. -/
def fnExactConstantsUptoRow : OpenClaim := { program := "ytclmompgjjmooaa", sum := "14e3918776d9d5ae288b8e812901261f1d7a0317b75b3219ca7d678eeba3714b", func := "loop.example/g01361/laws.FnExactConstants", spec := "fnExactConstants", apart := false, narrowed := true }
def FnExactConstantsUptoSaid : Prop := fnExactConstantsUptoRow.holds Try.pinned (OpenSpec.upto fnExactConstantsSpec)

/-- 'laws.FnExactSameRoom', WHERE WHAT IT READS IS OF BULK AT MOST 1048576: true; the input reads as it did. -/
def fnExactSameRoomUptoRow : OpenClaim := { program := "ytclmompgjjmooaa", sum := "14e3918776d9d5ae288b8e812901261f1d7a0317b75b3219ca7d678eeba3714b", func := "loop.example/g01361/laws.FnExactSameRoom", spec := "fnExactSameRoom", apart := false, narrowed := true }
def FnExactSameRoomUptoSaid : Prop := fnExactSameRoomUptoRow.holds Try.pinned (OpenSpec.upto fnExactSameRoomSpec)

/-- 'laws.FnExactCodeName', WHERE WHAT IT READS IS OF BULK AT MOST 1048576: true; the input reads as it did. -/
def fnExactCodeNameUptoRow : OpenClaim := { program := "ytclmompgjjmooaa", sum := "14e3918776d9d5ae288b8e812901261f1d7a0317b75b3219ca7d678eeba3714b", func := "loop.example/g01361/laws.FnExactCodeName", spec := "fnExactCodeName", apart := false, narrowed := true }
def FnExactCodeNameUptoSaid : Prop := fnExactCodeNameUptoRow.holds Try.pinned (OpenSpec.upto fnExactCodeNameSpec)

/-- 'laws.FnExactOpenRoom', WHERE WHAT IT READS IS OF BULK AT MOST 1048576: true; the input reads as it did. -/
def fnExactOpenRoomUptoRow : OpenClaim := { program := "ytclmompgjjmooaa", sum := "14e3918776d9d5ae288b8e812901261f1d7a0317b75b3219ca7d678eeba3714b", func := "loop.example/g01361/laws.FnExactOpenRoom", spec := "fnExactOpenRoom", apart := false, narrowed := true }
def FnExactOpenRoomUptoSaid : Prop := fnExactOpenRoomUptoRow.holds Try.pinned (OpenSpec.upto fnExactOpenRoomSpec)

/-- 'laws.FnExactValidRoom', WHERE WHAT IT READS IS OF BULK AT MOST 1048576: true; the input reads as it did. -/
def fnExactValidRoomUptoRow : OpenClaim := { program := "ytclmompgjjmooaa", sum := "14e3918776d9d5ae288b8e812901261f1d7a0317b75b3219ca7d678eeba3714b", func := "loop.example/g01361/laws.FnExactValidRoom", spec := "fnExactValidRoom", apart := false, narrowed := true }
def FnExactValidRoomUptoSaid : Prop := fnExactValidRoomUptoRow.holds Try.pinned (OpenSpec.upto fnExactValidRoomSpec)

/-- 'laws.FnExactNextSpot', WHERE WHAT IT READS IS OF BULK AT MOST 1048576: true; the input reads as it did. -/
def fnExactNextSpotUptoRow : OpenClaim := { program := "ytclmompgjjmooaa", sum := "14e3918776d9d5ae288b8e812901261f1d7a0317b75b3219ca7d678eeba3714b", func := "loop.example/g01361/laws.FnExactNextSpot", spec := "fnExactNextSpot", apart := false, narrowed := true }
def FnExactNextSpotUptoSaid : Prop := fnExactNextSpotUptoRow.holds Try.pinned (OpenSpec.upto fnExactNextSpotSpec)

/-- 'laws.FnExactSideTo', WHERE WHAT IT READS IS OF BULK AT MOST 1048576: true; the input reads as it did. -/
def fnExactSideToUptoRow : OpenClaim := { program := "ytclmompgjjmooaa", sum := "14e3918776d9d5ae288b8e812901261f1d7a0317b75b3219ca7d678eeba3714b", func := "loop.example/g01361/laws.FnExactSideTo", spec := "fnExactSideTo", apart := false, narrowed := true }
def FnExactSideToUptoSaid : Prop := fnExactSideToUptoRow.holds Try.pinned (OpenSpec.upto fnExactSideToSpec)

/-- 'laws.FnExactIsFree', WHERE WHAT IT READS IS OF BULK AT MOST 1048576: true; the input reads as it did. -/
def fnExactIsFreeUptoRow : OpenClaim := { program := "ytclmompgjjmooaa", sum := "14e3918776d9d5ae288b8e812901261f1d7a0317b75b3219ca7d678eeba3714b", func := "loop.example/g01361/laws.FnExactIsFree", spec := "fnExactIsFree", apart := false, narrowed := true }
def FnExactIsFreeUptoSaid : Prop := fnExactIsFreeUptoRow.holds Try.pinned (OpenSpec.upto fnExactIsFreeSpec)

end Rows
end Go.Proofs.Ytclmompgjjmooaa
