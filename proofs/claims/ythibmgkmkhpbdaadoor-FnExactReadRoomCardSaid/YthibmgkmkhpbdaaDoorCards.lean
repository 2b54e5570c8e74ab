/-
  DERIVED. GIVEN WITH THE SEED: THE CARDS: each row of YthibmgkmkhpbdaaDoorRows.lean that lists a variable, with what it lists TIED to the program's text (the seventh form; the later family's looks); each row that meets fmt, with fmt's text TOLD by the authors' own Lean function (tested against real Go, not proved from fmt's source: count such statements apart). THE CARD IS WHAT COUNTS. Prove the row's statement (the work); the ties are given (YthibmgkmkhpbdaaDoorTie.lean); close each card by the builder's one call (the guide's Derived/Test/ToyasCard.lean, 'card_holds'). Laid BY PROGRAM, IN A SANDBOX (cutbox-door.mjs). By AI agents, Wed Nov 11 2026. No macro, syntax, notation, axiom, sorry.
-/
import Derived.Test.YthibmgkmkhpbdaaDoorRows
import GoSem.ClaimSeven
namespace Go.Proofs.YthibmgkmkhpbdaaDoor
namespace Rows

/-- THE TIED CARD OF 'laws.FnExactReadRoom'. -/
def fnExactReadRoomCard : Claim7 := { stood := { row := fnExactReadRoomRow, standIns := [], harness := (true, "e5fcd2ce11439d014898116cabcdb49cec05860e842f5ae6b4e7e46d8dcfcd09"), looks := false }, kinds := [], alts := [], laidByText := true, laidKinds := [.data, .pinned], laidTests := true, laidLooks := .later }
def FnExactReadRoomCardSaid : Prop := Claim7.holds Tryd.pinned (.plain (OpenSpec.ofChange fnExactReadRoomSpec)) fnExactReadRoomCard

/-- THE SECOND FORM's CARD OF 'laws.FnExactReadRoom'. -/
def fnExactReadRoomUptoCard : Claim7 := { stood := { row := fnExactReadRoomUptoRow, standIns := [], harness := (true, "e5fcd2ce11439d014898116cabcdb49cec05860e842f5ae6b4e7e46d8dcfcd09"), looks := false }, kinds := [], alts := [], laidByText := true, laidKinds := [.data, .pinned], laidTests := true, laidLooks := .later }
def FnExactReadRoomUptoCardSaid : Prop := Claim7.holds Tryd.pinned (.plain (OpenSpec.upto fnExactReadRoomSpec)) fnExactReadRoomUptoCard
end Rows
end Go.Proofs.YthibmgkmkhpbdaaDoor
