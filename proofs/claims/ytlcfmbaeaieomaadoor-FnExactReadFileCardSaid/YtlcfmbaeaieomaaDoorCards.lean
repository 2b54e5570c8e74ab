/-
  DERIVED. GIVEN WITH THE SEED: THE CARDS: each row of YtlcfmbaeaieomaaDoorRows.lean that lists a variable, with what it lists TIED to the program's text (the seventh form; the later family's looks); each row that meets fmt, with fmt's text TOLD by the authors' own Lean function (tested against real Go, not proved from fmt's source: count such statements apart). THE CARD IS WHAT COUNTS. Prove the row's statement (the work); the ties are given (YtlcfmbaeaieomaaDoorTie.lean); close each card by the builder's one call (the guide's Derived/Test/ToyasCard.lean, 'card_holds'). Laid BY PROGRAM, IN A SANDBOX (cutbox-door.mjs). By AI agents, Wed Nov 11 2026. No macro, syntax, notation, axiom, sorry.
-/
import Derived.Test.YtlcfmbaeaieomaaDoorRows
import GoSem.ClaimSeven
namespace Go.Proofs.YtlcfmbaeaieomaaDoor
namespace Rows

/-- THE TIED CARD OF 'laws.FnExactFileText'. -/
def fnExactFileTextCard : Claim7 := { stood := { row := fnExactFileTextRow, standIns := [], harness := (true, "5e995efb7ebff4b91a8a69252096d8977335cd178bfa59ee7922ca636e1c47ee"), looks := true }, kinds := [], alts := [], laidByText := true, laidKinds := [.data, .data, .data], laidTests := true, laidLooks := .later }
def FnExactFileTextCardSaid : Prop := Claim7.holds Tryd.pinned (.plain (OpenSpec.ofChange fnExactFileTextSpec)) fnExactFileTextCard

/-- THE TIED CARD OF 'laws.FnExactReadFile'. -/
def fnExactReadFileCard : Claim7 := { stood := { row := fnExactReadFileRow, standIns := [], harness := (true, "5e995efb7ebff4b91a8a69252096d8977335cd178bfa59ee7922ca636e1c47ee"), looks := true }, kinds := [], alts := [], laidByText := true, laidKinds := [.data, .data, .data, .sentinel, .sentinel], laidTests := true, laidLooks := .later }
def FnExactReadFileCardSaid : Prop := Claim7.holds Tryd.pinned (.plain (OpenSpec.ofChange fnExactReadFileSpec)) fnExactReadFileCard

/-- THE SECOND FORM's CARD OF 'laws.FnExactFileText'. -/
def fnExactFileTextUptoCard : Claim7 := { stood := { row := fnExactFileTextUptoRow, standIns := [], harness := (true, "5e995efb7ebff4b91a8a69252096d8977335cd178bfa59ee7922ca636e1c47ee"), looks := true }, kinds := [], alts := [], laidByText := true, laidKinds := [.data, .data, .data], laidTests := true, laidLooks := .later }
def FnExactFileTextUptoCardSaid : Prop := Claim7.holds Tryd.pinned (.plain (OpenSpec.upto fnExactFileTextSpec)) fnExactFileTextUptoCard

/-- THE SECOND FORM's CARD OF 'laws.FnExactReadFile'. -/
def fnExactReadFileUptoCard : Claim7 := { stood := { row := fnExactReadFileUptoRow, standIns := [], harness := (true, "5e995efb7ebff4b91a8a69252096d8977335cd178bfa59ee7922ca636e1c47ee"), looks := true }, kinds := [], alts := [], laidByText := true, laidKinds := [.data, .data, .data, .sentinel, .sentinel], laidTests := true, laidLooks := .later }
def FnExactReadFileUptoCardSaid : Prop := Claim7.holds Tryd.pinned (.plain (OpenSpec.upto fnExactReadFileSpec)) fnExactReadFileUptoCard
end Rows
end Go.Proofs.YtlcfmbaeaieomaaDoor
