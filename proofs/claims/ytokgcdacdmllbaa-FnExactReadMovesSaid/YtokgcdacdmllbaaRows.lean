/-
  No cell of these rows narrows 'for every input' (looked for: loops, veiled, ifaces, maps, wideKeys, modest, calm, conditions, laid).
  DERIVED. THE GIVEN ROWS OF THIS SEAT. 14 by the template 'for every input the law returns true; each argument reads behind the call as it read before'; 0 by the template 'total and deterministic' (their statements: YtokgcdacdmllbaaTotals.lean).
  GIVEN WITH THE SEED: the statements are not yours to turn. If you find one false, say at which input.
  Laid BY PROGRAM, IN A SANDBOX (cutbox-rows.mjs): the forced cells as the released guide's own fill.sh prints them over the translation 54bbadd358a68523… (all of the seat's roots in one cut). By AI agents, Wed Nov 11 2026. No macro, syntax, notation, axiom, sorry.
-/
import Derived.Test.YtokgcdacdmllbaaChecked
import GoSem.Claim
import GoSem.ClaimJoined
import GoSem.ClaimMapViews
import Derived.JoinedTies
import Derived.KernelRfl
namespace Go.Proofs.Ytokgcdacdmllbaa
/- THE CELL 'sum', in the pinned program and in every row, IS THE sha256 OF THE DUMP (.gsa) THAT YtokgcdacdmllbaaProg.lean LOADS. Nothing in Lean hashes anything: it is a label: what it is worth is what the hold of that sum in a sandbox is worth. -/
noncomputable def Try.pinned : Pinned := { name := "ytokgcdacdmllbaa", sum := "54bbadd358a68523334dab1edab5351bb9a022c4ec48594152e5c1cc286f5c86", checked := Try.checked }
namespace Rows
def none {H : Type} : Left H := { results := [], args := [] }

/-- 'laws.FnExactSameFile': WHATEVER THE INPUT: true; the input reads as it did. -/
def fnExactSameFileSpec : ChangeSpec := { name := "fnExactSameFile", fn := fun _ => fun
  | [d1, d2] => { results := [.lit (.bool true)], args := [d1, d2] }
  | _ => none }
def fnExactSameFileRow : OpenClaim := { program := "ytokgcdacdmllbaa", sum := "54bbadd358a68523334dab1edab5351bb9a022c4ec48594152e5c1cc286f5c86", func := "loop.example/g01361/laws.FnExactSameFile", spec := "fnExactSameFile", apart := false }
def FnExactSameFileSaid : Prop := fnExactSameFileRow.holds Try.pinned (OpenSpec.ofChange fnExactSameFileSpec)

/-- ITS FALSE NEIGHBOUR: 'it returns false'. Refute it at one input. -/
def fnExactSameFileWrong : ChangeSpec := { name := "fnExactSameFile", fn := fun _ => fun
  | [d1, d2] => { results := [.lit (.bool false)], args := [d1, d2] }
  | _ => none }
def FnExactSameFileWrongFalsely : Prop := fnExactSameFileRow.holds Try.pinned (OpenSpec.ofChange fnExactSameFileWrong)

/-- 'laws.FnExactMovesText': WHATEVER THE INPUT: true; the input reads as it did. -/
def fnExactMovesTextSpec : ChangeSpec := { name := "fnExactMovesText", fn := fun _ => fun
  | [d] => { results := [.lit (.bool true)], args := [d] }
  | _ => none }
def fnExactMovesTextRow : OpenClaim := { program := "ytokgcdacdmllbaa", sum := "54bbadd358a68523334dab1edab5351bb9a022c4ec48594152e5c1cc286f5c86", func := "loop.example/g01361/laws.FnExactMovesText", spec := "fnExactMovesText", unfollowed := true, recurses := true, apart := false }
def FnExactMovesTextSaid : Prop := fnExactMovesTextRow.holds Try.pinned (OpenSpec.ofChange fnExactMovesTextSpec)

/-- ITS FALSE NEIGHBOUR: 'it returns false'. Refute it at one input. -/
def fnExactMovesTextWrong : ChangeSpec := { name := "fnExactMovesText", fn := fun _ => fun
  | [d] => { results := [.lit (.bool false)], args := [d] }
  | _ => none }
def FnExactMovesTextWrongFalsely : Prop := fnExactMovesTextRow.holds Try.pinned (OpenSpec.ofChange fnExactMovesTextWrong)

/-- 'laws.FnExactReadMoves': WHATEVER THE INPUT: true; the input reads as it did. -/
def fnExactReadMovesSpec : ChangeSpec := { name := "fnExactReadMoves", fn := fun _ => fun
  | [d] => { results := [.lit (.bool true)], args := [d] }
  | _ => none }
def fnExactReadMovesRow : OpenClaim := { program := "ytokgcdacdmllbaa", sum := "54bbadd358a68523334dab1edab5351bb9a022c4ec48594152e5c1cc286f5c86", func := "loop.example/g01361/laws.FnExactReadMoves", spec := "fnExactReadMoves", inPlace := ["internal/bytealg.IndexByteString"], unfollowed := true, recurses := true, apart := false }
def FnExactReadMovesSaid : Prop := fnExactReadMovesRow.holds Try.pinned (OpenSpec.ofChange fnExactReadMovesSpec)

/-- ITS FALSE NEIGHBOUR: 'it returns false'. Refute it at one input. -/
def fnExactReadMovesWrong : ChangeSpec := { name := "fnExactReadMoves", fn := fun _ => fun
  | [d] => { results := [.lit (.bool false)], args := [d] }
  | _ => none }
def FnExactReadMovesWrongFalsely : Prop := fnExactReadMovesRow.holds Try.pinned (OpenSpec.ofChange fnExactReadMovesWrong)

/-- 'laws.FnExactValidFile': WHATEVER THE INPUT: true; the input reads as it did. -/
def fnExactValidFileSpec : ChangeSpec := { name := "fnExactValidFile", fn := fun _ => fun
  | [d1, d2] => { results := [.lit (.bool true)], args := [d1, d2] }
  | _ => none }
def fnExactValidFileRow : OpenClaim := { program := "ytokgcdacdmllbaa", sum := "54bbadd358a68523334dab1edab5351bb9a022c4ec48594152e5c1cc286f5c86", func := "loop.example/g01361/laws.FnExactValidFile", spec := "fnExactValidFile", unfollowed := true, recurses := true, apart := false }
def FnExactValidFileSaid : Prop := fnExactValidFileRow.holds Try.pinned (OpenSpec.ofChange fnExactValidFileSpec)

/-- ITS FALSE NEIGHBOUR: 'it returns false'. Refute it at one input. -/
def fnExactValidFileWrong : ChangeSpec := { name := "fnExactValidFile", fn := fun _ => fun
  | [d1, d2] => { results := [.lit (.bool false)], args := [d1, d2] }
  | _ => none }
def FnExactValidFileWrongFalsely : Prop := fnExactValidFileRow.holds Try.pinned (OpenSpec.ofChange fnExactValidFileWrong)

/-- 'laws.FnExactCrossFiles': WHATEVER THE INPUT: true; the input reads as it did. -/
def fnExactCrossFilesSpec : ChangeSpec := { name := "fnExactCrossFiles", fn := fun _ => fun
  | [d1, d2, d3] => { results := [.lit (.bool true)], args := [d1, d2, d3] }
  | _ => none }
def fnExactCrossFilesRow : OpenClaim := { program := "ytokgcdacdmllbaa", sum := "54bbadd358a68523334dab1edab5351bb9a022c4ec48594152e5c1cc286f5c86", func := "loop.example/g01361/laws.FnExactCrossFiles", spec := "fnExactCrossFiles", unfollowed := true, recurses := true, apart := false }
def FnExactCrossFilesSaid : Prop := fnExactCrossFilesRow.holds Try.pinned (OpenSpec.ofChange fnExactCrossFilesSpec)

/-- ITS FALSE NEIGHBOUR: 'it returns false'. Refute it at one input. -/
def fnExactCrossFilesWrong : ChangeSpec := { name := "fnExactCrossFiles", fn := fun _ => fun
  | [d1, d2, d3] => { results := [.lit (.bool false)], args := [d1, d2, d3] }
  | _ => none }
def FnExactCrossFilesWrongFalsely : Prop := fnExactCrossFilesRow.holds Try.pinned (OpenSpec.ofChange fnExactCrossFilesWrong)

/-- 'laws.FnExactTurnsIn': WHATEVER THE INPUT: true; the input reads as it did. -/
def fnExactTurnsInSpec : ChangeSpec := { name := "fnExactTurnsIn", fn := fun _ => fun
  | [d1, d2] => { results := [.lit (.bool true)], args := [d1, d2] }
  | _ => none }
def fnExactTurnsInRow : OpenClaim := { program := "ytokgcdacdmllbaa", sum := "54bbadd358a68523334dab1edab5351bb9a022c4ec48594152e5c1cc286f5c86", func := "loop.example/g01361/laws.FnExactTurnsIn", spec := "fnExactTurnsIn", unfollowed := true, recurses := true, apart := false }
def FnExactTurnsInSaid : Prop := fnExactTurnsInRow.holds Try.pinned (OpenSpec.ofChange fnExactTurnsInSpec)

/-- ITS FALSE NEIGHBOUR: 'it returns false'. Refute it at one input. -/
def fnExactTurnsInWrong : ChangeSpec := { name := "fnExactTurnsIn", fn := fun _ => fun
  | [d1, d2] => { results := [.lit (.bool false)], args := [d1, d2] }
  | _ => none }
def FnExactTurnsInWrongFalsely : Prop := fnExactTurnsInRow.holds Try.pinned (OpenSpec.ofChange fnExactTurnsInWrong)

/-- 'laws.FnExactIsStraight': WHATEVER THE INPUT: true; the input reads as it did. -/
def fnExactIsStraightSpec : ChangeSpec := { name := "fnExactIsStraight", fn := fun _ => fun
  | [d1, d2] => { results := [.lit (.bool true)], args := [d1, d2] }
  | _ => none }
def fnExactIsStraightRow : OpenClaim := { program := "ytokgcdacdmllbaa", sum := "54bbadd358a68523334dab1edab5351bb9a022c4ec48594152e5c1cc286f5c86", func := "loop.example/g01361/laws.FnExactIsStraight", spec := "fnExactIsStraight", unfollowed := true, recurses := true, apart := false }
def FnExactIsStraightSaid : Prop := fnExactIsStraightRow.holds Try.pinned (OpenSpec.ofChange fnExactIsStraightSpec)

/-- ITS FALSE NEIGHBOUR: 'it returns false'. Refute it at one input. -/
def fnExactIsStraightWrong : ChangeSpec := { name := "fnExactIsStraight", fn := fun _ => fun
  | [d1, d2] => { results := [.lit (.bool false)], args := [d1, d2] }
  | _ => none }
def FnExactIsStraightWrongFalsely : Prop := fnExactIsStraightRow.holds Try.pinned (OpenSpec.ofChange fnExactIsStraightWrong)

/-- 'laws.FnExactCutFile': WHATEVER THE INPUT: true; the input reads as it did. -/
def fnExactCutFileSpec : ChangeSpec := { name := "fnExactCutFile", fn := fun _ => fun
  | [d1, d2, d3] => { results := [.lit (.bool true)], args := [d1, d2, d3] }
  | _ => none }
def fnExactCutFileRow : OpenClaim := { program := "ytokgcdacdmllbaa", sum := "54bbadd358a68523334dab1edab5351bb9a022c4ec48594152e5c1cc286f5c86", func := "loop.example/g01361/laws.FnExactCutFile", spec := "fnExactCutFile", unfollowed := true, recurses := true, apart := false }
def FnExactCutFileSaid : Prop := fnExactCutFileRow.holds Try.pinned (OpenSpec.ofChange fnExactCutFileSpec)

/-- ITS FALSE NEIGHBOUR: 'it returns false'. Refute it at one input. -/
def fnExactCutFileWrong : ChangeSpec := { name := "fnExactCutFile", fn := fun _ => fun
  | [d1, d2, d3] => { results := [.lit (.bool false)], args := [d1, d2, d3] }
  | _ => none }
def FnExactCutFileWrongFalsely : Prop := fnExactCutFileRow.holds Try.pinned (OpenSpec.ofChange fnExactCutFileWrong)

/-- 'laws.FnExactDropLast': WHATEVER THE INPUT: true; the input reads as it did. -/
def fnExactDropLastSpec : ChangeSpec := { name := "fnExactDropLast", fn := fun _ => fun
  | [d1, d2] => { results := [.lit (.bool true)], args := [d1, d2] }
  | _ => none }
def fnExactDropLastRow : OpenClaim := { program := "ytokgcdacdmllbaa", sum := "54bbadd358a68523334dab1edab5351bb9a022c4ec48594152e5c1cc286f5c86", func := "loop.example/g01361/laws.FnExactDropLast", spec := "fnExactDropLast", unfollowed := true, recurses := true, apart := false }
def FnExactDropLastSaid : Prop := fnExactDropLastRow.holds Try.pinned (OpenSpec.ofChange fnExactDropLastSpec)

/-- ITS FALSE NEIGHBOUR: 'it returns false'. Refute it at one input. -/
def fnExactDropLastWrong : ChangeSpec := { name := "fnExactDropLast", fn := fun _ => fun
  | [d1, d2] => { results := [.lit (.bool false)], args := [d1, d2] }
  | _ => none }
def FnExactDropLastWrongFalsely : Prop := fnExactDropLastRow.holds Try.pinned (OpenSpec.ofChange fnExactDropLastWrong)

/-- 'laws.FnExactIsStuck': WHATEVER THE INPUT: true; the input reads as it did. -/
def fnExactIsStuckSpec : ChangeSpec := { name := "fnExactIsStuck", fn := fun _ => fun
  | [d1, d2] => { results := [.lit (.bool true)], args := [d1, d2] }
  | _ => none }
def fnExactIsStuckRow : OpenClaim := { program := "ytokgcdacdmllbaa", sum := "54bbadd358a68523334dab1edab5351bb9a022c4ec48594152e5c1cc286f5c86", func := "loop.example/g01361/laws.FnExactIsStuck", spec := "fnExactIsStuck", unfollowed := true, recurses := true, apart := false }
def FnExactIsStuckSaid : Prop := fnExactIsStuckRow.holds Try.pinned (OpenSpec.ofChange fnExactIsStuckSpec)

/-- ITS FALSE NEIGHBOUR: 'it returns false'. Refute it at one input. -/
def fnExactIsStuckWrong : ChangeSpec := { name := "fnExactIsStuck", fn := fun _ => fun
  | [d1, d2] => { results := [.lit (.bool false)], args := [d1, d2] }
  | _ => none }
def FnExactIsStuckWrongFalsely : Prop := fnExactIsStuckRow.holds Try.pinned (OpenSpec.ofChange fnExactIsStuckWrong)

/-- 'laws.FnExactCanMove': WHATEVER THE INPUT: true; the input reads as it did. -/
def fnExactCanMoveSpec : ChangeSpec := { name := "fnExactCanMove", fn := fun _ => fun
  | [d1, d2, d3] => { results := [.lit (.bool true)], args := [d1, d2, d3] }
  | _ => none }
def fnExactCanMoveRow : OpenClaim := { program := "ytokgcdacdmllbaa", sum := "54bbadd358a68523334dab1edab5351bb9a022c4ec48594152e5c1cc286f5c86", func := "loop.example/g01361/laws.FnExactCanMove", spec := "fnExactCanMove", unfollowed := true, recurses := true, apart := false }
def FnExactCanMoveSaid : Prop := fnExactCanMoveRow.holds Try.pinned (OpenSpec.ofChange fnExactCanMoveSpec)

/-- ITS FALSE NEIGHBOUR: 'it returns false'. Refute it at one input. -/
def fnExactCanMoveWrong : ChangeSpec := { name := "fnExactCanMove", fn := fun _ => fun
  | [d1, d2, d3] => { results := [.lit (.bool false)], args := [d1, d2, d3] }
  | _ => none }
def FnExactCanMoveWrongFalsely : Prop := fnExactCanMoveRow.holds Try.pinned (OpenSpec.ofChange fnExactCanMoveWrong)

/-- 'laws.FnExactAddPerson': WHATEVER THE INPUT: true; the input reads as it did. -/
def fnExactAddPersonSpec : ChangeSpec := { name := "fnExactAddPerson", fn := fun _ => fun
  | [d1, d2, d3] => { results := [.lit (.bool true)], args := [d1, d2, d3] }
  | _ => none }
def fnExactAddPersonRow : OpenClaim := { program := "ytokgcdacdmllbaa", sum := "54bbadd358a68523334dab1edab5351bb9a022c4ec48594152e5c1cc286f5c86", func := "loop.example/g01361/laws.FnExactAddPerson", spec := "fnExactAddPerson", unfollowed := true, recurses := true, apart := false }
def FnExactAddPersonSaid : Prop := fnExactAddPersonRow.holds Try.pinned (OpenSpec.ofChange fnExactAddPersonSpec)

/-- ITS FALSE NEIGHBOUR: 'it returns false'. Refute it at one input. -/
def fnExactAddPersonWrong : ChangeSpec := { name := "fnExactAddPerson", fn := fun _ => fun
  | [d1, d2, d3] => { results := [.lit (.bool false)], args := [d1, d2, d3] }
  | _ => none }
def FnExactAddPersonWrongFalsely : Prop := fnExactAddPersonRow.holds Try.pinned (OpenSpec.ofChange fnExactAddPersonWrong)

/-- 'laws.FnExactJoinFiles': WHATEVER THE INPUT: true; the input reads as it did. -/
def fnExactJoinFilesSpec : ChangeSpec := { name := "fnExactJoinFiles", fn := fun _ => fun
  | [d1, d2, d3] => { results := [.lit (.bool true)], args := [d1, d2, d3] }
  | _ => none }
def fnExactJoinFilesRow : OpenClaim := { program := "ytokgcdacdmllbaa", sum := "54bbadd358a68523334dab1edab5351bb9a022c4ec48594152e5c1cc286f5c86", func := "loop.example/g01361/laws.FnExactJoinFiles", spec := "fnExactJoinFiles", unfollowed := true, recurses := true, apart := false }
def FnExactJoinFilesSaid : Prop := fnExactJoinFilesRow.holds Try.pinned (OpenSpec.ofChange fnExactJoinFilesSpec)

/-- ITS FALSE NEIGHBOUR: 'it returns false'. Refute it at one input. -/
def fnExactJoinFilesWrong : ChangeSpec := { name := "fnExactJoinFiles", fn := fun _ => fun
  | [d1, d2, d3] => { results := [.lit (.bool false)], args := [d1, d2, d3] }
  | _ => none }
def FnExactJoinFilesWrongFalsely : Prop := fnExactJoinFilesRow.holds Try.pinned (OpenSpec.ofChange fnExactJoinFilesWrong)

/-- 'laws.FnExactMovesOf': WHATEVER THE INPUT: true; the input reads as it did. -/
def fnExactMovesOfSpec : ChangeSpec := { name := "fnExactMovesOf", fn := fun _ => fun
  | [d1, d2] => { results := [.lit (.bool true)], args := [d1, d2] }
  | _ => none }
def fnExactMovesOfRow : OpenClaim := { program := "ytokgcdacdmllbaa", sum := "54bbadd358a68523334dab1edab5351bb9a022c4ec48594152e5c1cc286f5c86", func := "loop.example/g01361/laws.FnExactMovesOf", spec := "fnExactMovesOf", unfollowed := true, recurses := true, apart := false }
def FnExactMovesOfSaid : Prop := fnExactMovesOfRow.holds Try.pinned (OpenSpec.ofChange fnExactMovesOfSpec)

/-- ITS FALSE NEIGHBOUR: 'it returns false'. Refute it at one input. -/
def fnExactMovesOfWrong : ChangeSpec := { name := "fnExactMovesOf", fn := fun _ => fun
  | [d1, d2] => { results := [.lit (.bool false)], args := [d1, d2] }
  | _ => none }
def FnExactMovesOfWrongFalsely : Prop := fnExactMovesOfRow.holds Try.pinned (OpenSpec.ofChange fnExactMovesOfWrong)

/- THE SECOND FORM. 'bulk': how many values and letters a reading holds, each counted each time it is reached (what is shared counts as often as it is met; a slice's spare places count too). A statement '..UptoSaid' is the law's where the arguments, and the package variables that the reading takes, are together of bulk at most 1048576: NARROWER than '..Said'. Prove '..Said' where nothing that the law and all that it calls make is longer than what came in: it says more and counts as full. Else prove '..UptoSaid'. A law counts once. -/
mutual
def uptoBulk {H : Type} : DataW H → Nat
  | .lit (.string bytes) => bytes.length + 1
  | .lit _ => 1
  | .nil => 1
  | .ptr d => uptoBulk d + 1
  | .slice elems spare => uptoBulkAll elems + uptoBulkAll spare + 1
  | .agg parts => uptoBulkAll parts + 1
  | .iface _ d => uptoBulk d + 1
  | .map entries => uptoBulkEntries entries + 1
  | .held _ => 1
def uptoBulkAll {H : Type} : List (DataW H) → Nat
  | [] => 0
  | d :: r => uptoBulk d + uptoBulkAll r
def uptoBulkEntries {H : Type} : List (Lit × DataW H) → Nat
  | [] => 0
  | x :: r => uptoBulkEntry x + uptoBulkEntries r
def uptoBulkEntry {H : Type} : Lit × DataW H → Nat
  | (.string bytes, d) => bytes.length + uptoBulk d + 1
  | (_, d) => uptoBulk d + 1
 end
def uptoSmall : (H : Type) → List (DataW H) → Bool := fun _ ds => decide (uptoBulkAll ds ≤ 1048576)
def OpenSpec.upto (s : _root_.Go.ChangeSpec) : _root_.Go.OpenSpec := { _root_.Go.OpenSpec.ofChange s with cond := some uptoSmall }

/-- 'laws.FnExactSameFile', WHERE WHAT IT READS IS OF BULK AT MOST 1048576: true; the input reads as it did. -/
def fnExactSameFileUptoRow : OpenClaim := { program := "ytokgcdacdmllbaa", sum := "54bbadd358a68523334dab1edab5351bb9a022c4ec48594152e5c1cc286f5c86", func := "loop.example/g01361/laws.FnExactSameFile", spec := "fnExactSameFile", apart := false, narrowed := true }
def FnExactSameFileUptoSaid : Prop := fnExactSameFileUptoRow.holds Try.pinned (OpenSpec.upto fnExactSameFileSpec)

/-- 'laws.FnExactMovesText', WHERE WHAT IT READS IS OF BULK AT MOST 1048576: true; the input reads as it did. -/
def fnExactMovesTextUptoRow : OpenClaim := { program := "ytokgcdacdmllbaa", sum := "54bbadd358a68523334dab1edab5351bb9a022c4ec48594152e5c1cc286f5c86", func := "loop.example/g01361/laws.FnExactMovesText", spec := "fnExactMovesText", unfollowed := true, recurses := true, apart := false, narrowed := true }
def FnExactMovesTextUptoSaid : Prop := fnExactMovesTextUptoRow.holds Try.pinned (OpenSpec.upto fnExactMovesTextSpec)

/-- 'laws.FnExactReadMoves', WHERE WHAT IT READS IS OF BULK AT MOST 1048576: true; the input reads as it did. -/
def fnExactReadMovesUptoRow : OpenClaim := { program := "ytokgcdacdmllbaa", sum := "54bbadd358a68523334dab1edab5351bb9a022c4ec48594152e5c1cc286f5c86", func := "loop.example/g01361/laws.FnExactReadMoves", spec := "fnExactReadMoves", inPlace := ["internal/bytealg.IndexByteString"], unfollowed := true, recurses := true, apart := false, narrowed := true }
def FnExactReadMovesUptoSaid : Prop := fnExactReadMovesUptoRow.holds Try.pinned (OpenSpec.upto fnExactReadMovesSpec)

/-- 'laws.FnExactValidFile', WHERE WHAT IT READS IS OF BULK AT MOST 1048576: true; the input reads as it did. -/
def fnExactValidFileUptoRow : OpenClaim := { program := "ytokgcdacdmllbaa", sum := "54bbadd358a68523334dab1edab5351bb9a022c4ec48594152e5c1cc286f5c86", func := "loop.example/g01361/laws.FnExactValidFile", spec := "fnExactValidFile", unfollowed := true, recurses := true, apart := false, narrowed := true }
def FnExactValidFileUptoSaid : Prop := fnExactValidFileUptoRow.holds Try.pinned (OpenSpec.upto fnExactValidFileSpec)

/-- 'laws.FnExactCrossFiles', WHERE WHAT IT READS IS OF BULK AT MOST 1048576: true; the input reads as it did. -/
def fnExactCrossFilesUptoRow : OpenClaim := { program := "ytokgcdacdmllbaa", sum := "54bbadd358a68523334dab1edab5351bb9a022c4ec48594152e5c1cc286f5c86", func := "loop.example/g01361/laws.FnExactCrossFiles", spec := "fnExactCrossFiles", unfollowed := true, recurses := true, apart := false, narrowed := true }
def FnExactCrossFilesUptoSaid : Prop := fnExactCrossFilesUptoRow.holds Try.pinned (OpenSpec.upto fnExactCrossFilesSpec)

/-- 'laws.FnExactTurnsIn', WHERE WHAT IT READS IS OF BULK AT MOST 1048576: true; the input reads as it did. -/
def fnExactTurnsInUptoRow : OpenClaim := { program := "ytokgcdacdmllbaa", sum := "54bbadd358a68523334dab1edab5351bb9a022c4ec48594152e5c1cc286f5c86", func := "loop.example/g01361/laws.FnExactTurnsIn", spec := "fnExactTurnsIn", unfollowed := true, recurses := true, apart := false, narrowed := true }
def FnExactTurnsInUptoSaid : Prop := fnExactTurnsInUptoRow.holds Try.pinned (OpenSpec.upto fnExactTurnsInSpec)

/-- 'laws.FnExactIsStraight', WHERE WHAT IT READS IS OF BULK AT MOST 1048576: true; the input reads as it did. -/
def fnExactIsStraightUptoRow : OpenClaim := { program := "ytokgcdacdmllbaa", sum := "54bbadd358a68523334dab1edab5351bb9a022c4ec48594152e5c1cc286f5c86", func := "loop.example/g01361/laws.FnExactIsStraight", spec := "fnExactIsStraight", unfollowed := true, recurses := true, apart := false, narrowed := true }
def FnExactIsStraightUptoSaid : Prop := fnExactIsStraightUptoRow.holds Try.pinned (OpenSpec.upto fnExactIsStraightSpec)

/-- 'laws.FnExactCutFile', WHERE WHAT IT READS IS OF BULK AT MOST 1048576: true; the input reads as it did. -/
def fnExactCutFileUptoRow : OpenClaim := { program := "ytokgcdacdmllbaa", sum := "54bbadd358a68523334dab1edab5351bb9a022c4ec48594152e5c1cc286f5c86", func := "loop.example/g01361/laws.FnExactCutFile", spec := "fnExactCutFile", unfollowed := true, recurses := true, apart := false, narrowed := true }
def FnExactCutFileUptoSaid : Prop := fnExactCutFileUptoRow.holds Try.pinned (OpenSpec.upto fnExactCutFileSpec)

/-- 'laws.FnExactDropLast', WHERE WHAT IT READS IS OF BULK AT MOST 1048576: true; the input reads as it did. -/
def fnExactDropLastUptoRow : OpenClaim := { program := "ytokgcdacdmllbaa", sum := "54bbadd358a68523334dab1edab5351bb9a022c4ec48594152e5c1cc286f5c86", func := "loop.example/g01361/laws.FnExactDropLast", spec := "fnExactDropLast", unfollowed := true, recurses := true, apart := false, narrowed := true }
def FnExactDropLastUptoSaid : Prop := fnExactDropLastUptoRow.holds Try.pinned (OpenSpec.upto fnExactDropLastSpec)

/-- 'laws.FnExactIsStuck', WHERE WHAT IT READS IS OF BULK AT MOST 1048576: true; the input reads as it did. -/
def fnExactIsStuckUptoRow : OpenClaim := { program := "ytokgcdacdmllbaa", sum := "54bbadd358a68523334dab1edab5351bb9a022c4ec48594152e5c1cc286f5c86", func := "loop.example/g01361/laws.FnExactIsStuck", spec := "fnExactIsStuck", unfollowed := true, recurses := true, apart := false, narrowed := true }
def FnExactIsStuckUptoSaid : Prop := fnExactIsStuckUptoRow.holds Try.pinned (OpenSpec.upto fnExactIsStuckSpec)

/-- 'laws.FnExactCanMove', WHERE WHAT IT READS IS OF BULK AT MOST 1048576: true; the input reads as it did. -/
def fnExactCanMoveUptoRow : OpenClaim := { program := "ytokgcdacdmllbaa", sum := "54bbadd358a68523334dab1edab5351bb9a022c4ec48594152e5c1cc286f5c86", func := "loop.example/g01361/laws.FnExactCanMove", spec := "fnExactCanMove", unfollowed := true, recurses := true, apart := false, narrowed := true }
def FnExactCanMoveUptoSaid : Prop := fnExactCanMoveUptoRow.holds Try.pinned (OpenSpec.upto fnExactCanMoveSpec)

/-- 'laws.FnExactAddPerson', WHERE WHAT IT READS IS OF BULK AT MOST 1048576: true; the input reads as it did. -/
def fnExactAddPersonUptoRow : OpenClaim := { program := "ytokgcdacdmllbaa", sum := "54bbadd358a68523334dab1edab5351bb9a022c4ec48594152e5c1cc286f5c86", func := "loop.example/g01361/laws.FnExactAddPerson", spec := "fnExactAddPerson", unfollowed := true, recurses := true, apart := false, narrowed := true }
def FnExactAddPersonUptoSaid : Prop := fnExactAddPersonUptoRow.holds Try.pinned (OpenSpec.upto fnExactAddPersonSpec)

/-- 'laws.FnExactJoinFiles', WHERE WHAT IT READS IS OF BULK AT MOST 1048576: true; the input reads as it did. -/
def fnExactJoinFilesUptoRow : OpenClaim := { program := "ytokgcdacdmllbaa", sum := "54bbadd358a68523334dab1edab5351bb9a022c4ec48594152e5c1cc286f5c86", func := "loop.example/g01361/laws.FnExactJoinFiles", spec := "fnExactJoinFiles", unfollowed := true, recurses := true, apart := false, narrowed := true }
def FnExactJoinFilesUptoSaid : Prop := fnExactJoinFilesUptoRow.holds Try.pinned (OpenSpec.upto fnExactJoinFilesSpec)

/-- 'laws.FnExactMovesOf', WHERE WHAT IT READS IS OF BULK AT MOST 1048576: true; the input reads as it did. -/
def fnExactMovesOfUptoRow : OpenClaim := { program := "ytokgcdacdmllbaa", sum := "54bbadd358a68523334dab1edab5351bb9a022c4ec48594152e5c1cc286f5c86", func := "loop.example/g01361/laws.FnExactMovesOf", spec := "fnExactMovesOf", unfollowed := true, recurses := true, apart := false, narrowed := true }
def FnExactMovesOfUptoSaid : Prop := fnExactMovesOfUptoRow.holds Try.pinned (OpenSpec.upto fnExactMovesOfSpec)

end Rows
end Go.Proofs.Ytokgcdacdmllbaa
