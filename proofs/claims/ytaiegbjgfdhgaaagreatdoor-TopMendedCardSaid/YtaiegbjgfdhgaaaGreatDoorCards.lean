/-
  DERIVED. GIVEN WITH THE SEED: THE CARDS: each row of YtaiegbjgfdhgaaaGreatDoorRows.lean that lists a variable, with what it lists TIED to the program's text (the seventh form; the later family's looks); each row that meets fmt, with fmt's text TOLD by the authors' own Lean function (tested against real Go, not proved from fmt's source: count such statements apart). THE CARD IS WHAT COUNTS. Prove the row's statement (the work); the ties are given (YtaiegbjgfdhgaaaGreatDoorTie.lean); close each card by the builder's one call (the guide's Derived/Test/ToyasCard.lean, 'card_holds'). Laid BY PROGRAM, IN A SANDBOX (cutbox-door.mjs). By AI agents, Wed Nov 11 2026. No macro, syntax, notation, axiom, sorry.
-/
import Derived.Test.YtaiegbjgfdhgaaaGreatDoorRows
import GoSem.ClaimSeven
namespace Go.Proofs.YtaiegbjgfdhgaaaGreatDoor
namespace Rows

/-- THE TIED CARD OF 'dipworkstop.TopMended'. -/
def topMendedCard : Claim7 := { stood := { row := topMendedRow, standIns := [], harness := (true, "691c931bc55745fca5b0103f10ea5a323c1aa8d2105a2305f728c08ecf62ad89"), looks := true }, kinds := [], alts := [], laidByText := true, laidKinds := [.data, .data, .data, .data, .sentinel, .sentinel, .pinned], laidTests := true, laidLooks := .later }
def TopMendedCardSaid : Prop := Claim7.holds Tryz.pinned (.plain (OpenSpec.ofChange topMendedSpec)) topMendedCard

/-- THE TIED CARD OF 'dipworkstop.TopBooks'. -/
def topBooksCard : Claim7 := { stood := { row := topBooksRow, standIns := [], harness := (true, "691c931bc55745fca5b0103f10ea5a323c1aa8d2105a2305f728c08ecf62ad89"), looks := true }, kinds := [], alts := [], laidByText := true, laidKinds := [.data, .data, .data, .data, .sentinel, .sentinel, .data, .pinned], laidTests := true, laidLooks := .later }
def TopBooksCardSaid : Prop := Claim7.holds Tryz.pinned (.plain (OpenSpec.ofChange topBooksSpec)) topBooksCard

/-- THE SECOND FORM's CARD OF 'dipworkstop.TopMended'. -/
def topMendedUptoCard : Claim7 := { stood := { row := topMendedUptoRow, standIns := [], harness := (true, "691c931bc55745fca5b0103f10ea5a323c1aa8d2105a2305f728c08ecf62ad89"), looks := true }, kinds := [], alts := [], laidByText := true, laidKinds := [.data, .data, .data, .data, .sentinel, .sentinel, .pinned], laidTests := true, laidLooks := .later }
def TopMendedUptoCardSaid : Prop := Claim7.holds Tryz.pinned (.plain (OpenSpec.upto topMendedSpec)) topMendedUptoCard

/-- THE SECOND FORM's CARD OF 'dipworkstop.TopBooks'. -/
def topBooksUptoCard : Claim7 := { stood := { row := topBooksUptoRow, standIns := [], harness := (true, "691c931bc55745fca5b0103f10ea5a323c1aa8d2105a2305f728c08ecf62ad89"), looks := true }, kinds := [], alts := [], laidByText := true, laidKinds := [.data, .data, .data, .data, .sentinel, .sentinel, .data, .pinned], laidTests := true, laidLooks := .later }
def TopBooksUptoCardSaid : Prop := Claim7.holds Tryz.pinned (.plain (OpenSpec.upto topBooksSpec)) topBooksUptoCard
end Rows
end Go.Proofs.YtaiegbjgfdhgaaaGreatDoor
