/-
  DERIVED. GIVEN WITH THE SEED: THE CARDS: each row of YtmmmjdbknepjgaaDoorRows.lean that lists a variable, with what it lists TIED to the program's text (the seventh form; the later family's looks); each row that meets fmt, with fmt's text TOLD by the authors' own Lean function (tested against real Go, not proved from fmt's source: count such statements apart). THE CARD IS WHAT COUNTS. Prove the row's statement (the work); the ties are given (YtmmmjdbknepjgaaDoorTie.lean); close each card by the builder's one call (the guide's Derived/Test/ToyasCard.lean, 'card_holds'). Laid BY PROGRAM, IN A SANDBOX (cutbox-door.mjs). By AI agents, Wed Nov 11 2026. No macro, syntax, notation, axiom, sorry.
-/
import Derived.Test.YtmmmjdbknepjgaaDoorRows
import GoSem.ClaimSeven
namespace Go.Proofs.YtmmmjdbknepjgaaDoor
namespace Rows

/-- THE TIED CARD OF 'laws.FnRooms'. -/
def fnRoomsCard : Claim7 := { stood := { row := fnRoomsRow, standIns := [], harness := (true, "ccc43a40b8c6cebd67c8e4b80be1fe3b26c317dbe2ff1a2aaa9f2729c3337e73"), looks := false }, kinds := [], alts := [], laidByText := true, laidKinds := [.data, .pinned], laidTests := true, laidLooks := .later }
def FnRoomsCardSaid : Prop := Claim7.holds Tryd.pinned (.plain (OpenSpec.ofChange fnRoomsSpec)) fnRoomsCard

/-- THE SECOND FORM's CARD OF 'laws.FnRooms'. -/
def fnRoomsUptoCard : Claim7 := { stood := { row := fnRoomsUptoRow, standIns := [], harness := (true, "ccc43a40b8c6cebd67c8e4b80be1fe3b26c317dbe2ff1a2aaa9f2729c3337e73"), looks := false }, kinds := [], alts := [], laidByText := true, laidKinds := [.data, .pinned], laidTests := true, laidLooks := .later }
def FnRoomsUptoCardSaid : Prop := Claim7.holds Tryd.pinned (.plain (OpenSpec.upto fnRoomsSpec)) fnRoomsUptoCard
end Rows
end Go.Proofs.YtmmmjdbknepjgaaDoor
