/-
  DERIVED. GIVEN WITH THE SEED: THE CARDS: each row of YtejgofaeafphjaaGreatDoorRows.lean that lists a variable, with what it lists TIED to the program's text (the seventh form; the later family's looks); each row that meets fmt, with fmt's text TOLD by the authors' own Lean function (tested against real Go, not proved from fmt's source: count such statements apart). THE CARD IS WHAT COUNTS. Prove the row's statement (the work); the ties are given (YtejgofaeafphjaaGreatDoorTie.lean); close each card by the builder's one call (the guide's Derived/Test/ToyasCard.lean, 'card_holds'). Laid BY PROGRAM, IN A SANDBOX (cutbox-door.mjs). By AI agents, Wed Nov 11 2026. No macro, syntax, notation, axiom, sorry.
-/
import Derived.Test.YtejgofaeafphjaaGreatDoorRows
import GoSem.ClaimSeven
namespace Go.Proofs.YtejgofaeafphjaaGreatDoor
namespace Rows

/-- THE TIED CARD OF 'dipworkstop.TopSeason'. -/
def topSeasonCard : Claim7 := { stood := { row := topSeasonRow, standIns := [], harness := (true, "87aa966b43e40a09a979d285ef6680c333f30403940709867cc227071fdc79bf"), looks := true }, kinds := [], alts := [], laidByText := true, laidKinds := [.data, .data, .data, .data, .data, .sentinel, .sentinel, .data, .pinned], laidTests := true, laidLooks := .later }
def TopSeasonCardSaid : Prop := Claim7.holds Tryz.pinned (.plain (OpenSpec.ofChange topSeasonSpec)) topSeasonCard

/-- THE TIED CARD OF 'dipworkslaw15.WicketPlays'. -/
def wicketPlaysCard : Claim7 := { stood := { row := wicketPlaysRow, standIns := [], harness := (true, "87aa966b43e40a09a979d285ef6680c333f30403940709867cc227071fdc79bf"), looks := true }, kinds := [], alts := [], laidByText := true, laidKinds := [.data, .data, .data, .data, .data, .sentinel, .sentinel, .data, .pinned], laidTests := true, laidLooks := .later }
def WicketPlaysCardSaid : Prop := Claim7.holds Tryz.pinned (.plain (OpenSpec.ofChange wicketPlaysSpec)) wicketPlaysCard

/-- THE TIED CARD OF 'dipworkslaw15.WicketNames'. -/
def wicketNamesCard : Claim7 := { stood := { row := wicketNamesRow, standIns := [], harness := (true, "87aa966b43e40a09a979d285ef6680c333f30403940709867cc227071fdc79bf"), looks := true }, kinds := [], alts := [], laidByText := true, laidKinds := [.data, .data, .data, .data, .data, .sentinel, .sentinel, .data, .pinned], laidTests := true, laidLooks := .later }
def WicketNamesCardSaid : Prop := Claim7.holds Tryz.pinned (.plain (OpenSpec.ofChange wicketNamesSpec)) wicketNamesCard

/-- THE TIED CARD OF 'dipworkslaw15.WicketRuns'. -/
def wicketRunsCard : Claim7 := { stood := { row := wicketRunsRow, standIns := [], harness := (true, "87aa966b43e40a09a979d285ef6680c333f30403940709867cc227071fdc79bf"), looks := true }, kinds := [], alts := [], laidByText := true, laidKinds := [.data, .data, .data, .data, .data, .sentinel, .sentinel, .data, .pinned], laidTests := true, laidLooks := .later }
def WicketRunsCardSaid : Prop := Claim7.holds Tryz.pinned (.plain (OpenSpec.ofChange wicketRunsSpec)) wicketRunsCard

/-- THE TIED CARD OF 'dipworkslaw15.WicketRight'. -/
def wicketRightCard : Claim7 := { stood := { row := wicketRightRow, standIns := [], harness := (true, "87aa966b43e40a09a979d285ef6680c333f30403940709867cc227071fdc79bf"), looks := true }, kinds := [], alts := [], laidByText := true, laidKinds := [.data, .data, .data, .data, .data, .sentinel, .sentinel, .data, .pinned], laidTests := true, laidLooks := .later }
def WicketRightCardSaid : Prop := Claim7.holds Tryz.pinned (.plain (OpenSpec.ofChange wicketRightSpec)) wicketRightCard

/-- THE TIED CARD OF 'dipworkslaw15.WicketTickets'. -/
def wicketTicketsCard : Claim7 := { stood := { row := wicketTicketsRow, standIns := [], harness := (true, "87aa966b43e40a09a979d285ef6680c333f30403940709867cc227071fdc79bf"), looks := true }, kinds := [], alts := [], laidByText := true, laidKinds := [.data, .data, .data, .data, .data, .sentinel, .sentinel, .data, .pinned], laidTests := true, laidLooks := .later }
def WicketTicketsCardSaid : Prop := Claim7.holds Tryz.pinned (.plain (OpenSpec.ofChange wicketTicketsSpec)) wicketTicketsCard

/-- THE TIED CARD OF 'dipworkslaw15.WicketTides'. -/
def wicketTidesCard : Claim7 := { stood := { row := wicketTidesRow, standIns := [], harness := (true, "87aa966b43e40a09a979d285ef6680c333f30403940709867cc227071fdc79bf"), looks := true }, kinds := [], alts := [], laidByText := true, laidKinds := [.data, .data, .data, .data, .data, .sentinel, .sentinel, .data, .pinned], laidTests := true, laidLooks := .later }
def WicketTidesCardSaid : Prop := Claim7.holds Tryz.pinned (.plain (OpenSpec.ofChange wicketTidesSpec)) wicketTidesCard

/-- THE TIED CARD OF 'dipworkslaw15.WicketBooks'. -/
def wicketBooksCard : Claim7 := { stood := { row := wicketBooksRow, standIns := [], harness := (true, "87aa966b43e40a09a979d285ef6680c333f30403940709867cc227071fdc79bf"), looks := true }, kinds := [], alts := [], laidByText := true, laidKinds := [.data, .data, .data, .data, .data, .sentinel, .sentinel, .data, .pinned], laidTests := true, laidLooks := .later }
def WicketBooksCardSaid : Prop := Claim7.holds Tryz.pinned (.plain (OpenSpec.ofChange wicketBooksSpec)) wicketBooksCard

/-- THE TIED CARD OF 'dipworkslaw15.WicketStill'. -/
def wicketStillCard : Claim7 := { stood := { row := wicketStillRow, standIns := [], harness := (true, "87aa966b43e40a09a979d285ef6680c333f30403940709867cc227071fdc79bf"), looks := true }, kinds := [], alts := [], laidByText := true, laidKinds := [.data, .data, .data, .data, .data, .sentinel, .sentinel, .data, .pinned], laidTests := true, laidLooks := .later }
def WicketStillCardSaid : Prop := Claim7.holds Tryz.pinned (.plain (OpenSpec.ofChange wicketStillSpec)) wicketStillCard

/-- THE TIED CARD OF 'dipworkslaw15.WicketForm'. -/
def wicketFormCard : Claim7 := { stood := { row := wicketFormRow, standIns := [], harness := (true, "87aa966b43e40a09a979d285ef6680c333f30403940709867cc227071fdc79bf"), looks := true }, kinds := [], alts := [], laidByText := true, laidKinds := [.data, .data, .data, .data, .data, .sentinel, .sentinel, .data, .pinned, .pinned], laidTests := true, laidLooks := .later }
def WicketFormCardSaid : Prop := Claim7.holds Tryz.pinned (.plain (OpenSpec.ofChange wicketFormSpec)) wicketFormCard

/-- THE SECOND FORM's CARD OF 'dipworkstop.TopSeason'. -/
def topSeasonUptoCard : Claim7 := { stood := { row := topSeasonUptoRow, standIns := [], harness := (true, "87aa966b43e40a09a979d285ef6680c333f30403940709867cc227071fdc79bf"), looks := true }, kinds := [], alts := [], laidByText := true, laidKinds := [.data, .data, .data, .data, .data, .sentinel, .sentinel, .data, .pinned], laidTests := true, laidLooks := .later }
def TopSeasonUptoCardSaid : Prop := Claim7.holds Tryz.pinned (.plain (OpenSpec.upto topSeasonSpec)) topSeasonUptoCard

/-- THE SECOND FORM's CARD OF 'dipworkslaw15.WicketPlays'. -/
def wicketPlaysUptoCard : Claim7 := { stood := { row := wicketPlaysUptoRow, standIns := [], harness := (true, "87aa966b43e40a09a979d285ef6680c333f30403940709867cc227071fdc79bf"), looks := true }, kinds := [], alts := [], laidByText := true, laidKinds := [.data, .data, .data, .data, .data, .sentinel, .sentinel, .data, .pinned], laidTests := true, laidLooks := .later }
def WicketPlaysUptoCardSaid : Prop := Claim7.holds Tryz.pinned (.plain (OpenSpec.upto wicketPlaysSpec)) wicketPlaysUptoCard

/-- THE SECOND FORM's CARD OF 'dipworkslaw15.WicketNames'. -/
def wicketNamesUptoCard : Claim7 := { stood := { row := wicketNamesUptoRow, standIns := [], harness := (true, "87aa966b43e40a09a979d285ef6680c333f30403940709867cc227071fdc79bf"), looks := true }, kinds := [], alts := [], laidByText := true, laidKinds := [.data, .data, .data, .data, .data, .sentinel, .sentinel, .data, .pinned], laidTests := true, laidLooks := .later }
def WicketNamesUptoCardSaid : Prop := Claim7.holds Tryz.pinned (.plain (OpenSpec.upto wicketNamesSpec)) wicketNamesUptoCard

/-- THE SECOND FORM's CARD OF 'dipworkslaw15.WicketRuns'. -/
def wicketRunsUptoCard : Claim7 := { stood := { row := wicketRunsUptoRow, standIns := [], harness := (true, "87aa966b43e40a09a979d285ef6680c333f30403940709867cc227071fdc79bf"), looks := true }, kinds := [], alts := [], laidByText := true, laidKinds := [.data, .data, .data, .data, .data, .sentinel, .sentinel, .data, .pinned], laidTests := true, laidLooks := .later }
def WicketRunsUptoCardSaid : Prop := Claim7.holds Tryz.pinned (.plain (OpenSpec.upto wicketRunsSpec)) wicketRunsUptoCard

/-- THE SECOND FORM's CARD OF 'dipworkslaw15.WicketRight'. -/
def wicketRightUptoCard : Claim7 := { stood := { row := wicketRightUptoRow, standIns := [], harness := (true, "87aa966b43e40a09a979d285ef6680c333f30403940709867cc227071fdc79bf"), looks := true }, kinds := [], alts := [], laidByText := true, laidKinds := [.data, .data, .data, .data, .data, .sentinel, .sentinel, .data, .pinned], laidTests := true, laidLooks := .later }
def WicketRightUptoCardSaid : Prop := Claim7.holds Tryz.pinned (.plain (OpenSpec.upto wicketRightSpec)) wicketRightUptoCard

/-- THE SECOND FORM's CARD OF 'dipworkslaw15.WicketTickets'. -/
def wicketTicketsUptoCard : Claim7 := { stood := { row := wicketTicketsUptoRow, standIns := [], harness := (true, "87aa966b43e40a09a979d285ef6680c333f30403940709867cc227071fdc79bf"), looks := true }, kinds := [], alts := [], laidByText := true, laidKinds := [.data, .data, .data, .data, .data, .sentinel, .sentinel, .data, .pinned], laidTests := true, laidLooks := .later }
def WicketTicketsUptoCardSaid : Prop := Claim7.holds Tryz.pinned (.plain (OpenSpec.upto wicketTicketsSpec)) wicketTicketsUptoCard

/-- THE SECOND FORM's CARD OF 'dipworkslaw15.WicketTides'. -/
def wicketTidesUptoCard : Claim7 := { stood := { row := wicketTidesUptoRow, standIns := [], harness := (true, "87aa966b43e40a09a979d285ef6680c333f30403940709867cc227071fdc79bf"), looks := true }, kinds := [], alts := [], laidByText := true, laidKinds := [.data, .data, .data, .data, .data, .sentinel, .sentinel, .data, .pinned], laidTests := true, laidLooks := .later }
def WicketTidesUptoCardSaid : Prop := Claim7.holds Tryz.pinned (.plain (OpenSpec.upto wicketTidesSpec)) wicketTidesUptoCard

/-- THE SECOND FORM's CARD OF 'dipworkslaw15.WicketBooks'. -/
def wicketBooksUptoCard : Claim7 := { stood := { row := wicketBooksUptoRow, standIns := [], harness := (true, "87aa966b43e40a09a979d285ef6680c333f30403940709867cc227071fdc79bf"), looks := true }, kinds := [], alts := [], laidByText := true, laidKinds := [.data, .data, .data, .data, .data, .sentinel, .sentinel, .data, .pinned], laidTests := true, laidLooks := .later }
def WicketBooksUptoCardSaid : Prop := Claim7.holds Tryz.pinned (.plain (OpenSpec.upto wicketBooksSpec)) wicketBooksUptoCard

/-- THE SECOND FORM's CARD OF 'dipworkslaw15.WicketStill'. -/
def wicketStillUptoCard : Claim7 := { stood := { row := wicketStillUptoRow, standIns := [], harness := (true, "87aa966b43e40a09a979d285ef6680c333f30403940709867cc227071fdc79bf"), looks := true }, kinds := [], alts := [], laidByText := true, laidKinds := [.data, .data, .data, .data, .data, .sentinel, .sentinel, .data, .pinned], laidTests := true, laidLooks := .later }
def WicketStillUptoCardSaid : Prop := Claim7.holds Tryz.pinned (.plain (OpenSpec.upto wicketStillSpec)) wicketStillUptoCard

/-- THE SECOND FORM's CARD OF 'dipworkslaw15.WicketForm'. -/
def wicketFormUptoCard : Claim7 := { stood := { row := wicketFormUptoRow, standIns := [], harness := (true, "87aa966b43e40a09a979d285ef6680c333f30403940709867cc227071fdc79bf"), looks := true }, kinds := [], alts := [], laidByText := true, laidKinds := [.data, .data, .data, .data, .data, .sentinel, .sentinel, .data, .pinned, .pinned], laidTests := true, laidLooks := .later }
def WicketFormUptoCardSaid : Prop := Claim7.holds Tryz.pinned (.plain (OpenSpec.upto wicketFormSpec)) wicketFormUptoCard
end Rows
end Go.Proofs.YtejgofaeafphjaaGreatDoor
