/-
  DERIVED. GIVEN WITH THE SEED: THE CARDS: each row of YtaebnllfmkcpgaaGreatDoorRows.lean that lists a variable, with what it lists TIED to the program's text (the seventh form; the later family's looks); each row that meets fmt, with fmt's text TOLD by the authors' own Lean function (tested against real Go, not proved from fmt's source: count such statements apart). THE CARD IS WHAT COUNTS. Prove the row's statement (the work); the ties are given (YtaebnllfmkcpgaaGreatDoorTie.lean); close each card by the builder's one call (the guide's Derived/Test/ToyasCard.lean, 'card_holds'). Laid BY PROGRAM, IN A SANDBOX (cutbox-door.mjs). By AI agents, Wed Nov 11 2026. No macro, syntax, notation, axiom, sorry.
-/
import Derived.Test.YtaebnllfmkcpgaaGreatDoorRows
import GoSem.ClaimSeven
namespace Go.Proofs.YtaebnllfmkcpgaaGreatDoor
namespace Rows

/-- THE TIED CARD OF 'dipworkslaw14.BookWrites'. -/
def bookWritesCard : Claim7 := { stood := { row := bookWritesRow, standIns := [], harness := (true, "897d6e52f0714186e3149b9adc998af31876b18dc80bc7b7c554682996da192d"), looks := true }, kinds := [], alts := [], laidByText := true, laidKinds := [.data, .data, .data, .data, .sentinel, .sentinel, .data, .pinned], laidTests := true, laidLooks := .later }
def BookWritesCardSaid : Prop := Claim7.holds Tryz.pinned (.plain (OpenSpec.ofChange bookWritesSpec)) bookWritesCard

/-- THE TIED CARD OF 'dipworkslaw14.BookMends'. -/
def bookMendsCard : Claim7 := { stood := { row := bookMendsRow, standIns := [], harness := (true, "897d6e52f0714186e3149b9adc998af31876b18dc80bc7b7c554682996da192d"), looks := true }, kinds := [], alts := [], laidByText := true, laidKinds := [.data, .data, .data, .data, .sentinel, .sentinel, .data, .pinned], laidTests := true, laidLooks := .later }
def BookMendsCardSaid : Prop := Claim7.holds Tryz.pinned (.plain (OpenSpec.ofChange bookMendsSpec)) bookMendsCard

/-- THE TIED CARD OF 'dipworkslaw14.BookApart'. -/
def bookApartCard : Claim7 := { stood := { row := bookApartRow, standIns := [], harness := (true, "897d6e52f0714186e3149b9adc998af31876b18dc80bc7b7c554682996da192d"), looks := true }, kinds := [], alts := [], laidByText := true, laidKinds := [.data, .data, .data, .data, .sentinel, .sentinel, .data, .pinned], laidTests := true, laidLooks := .later }
def BookApartCardSaid : Prop := Claim7.holds Tryz.pinned (.plain (OpenSpec.ofChange bookApartSpec)) bookApartCard

/-- THE TIED CARD OF 'dipworkslaw14.BookByte'. -/
def bookByteCard : Claim7 := { stood := { row := bookByteRow, standIns := [], harness := (true, "897d6e52f0714186e3149b9adc998af31876b18dc80bc7b7c554682996da192d"), looks := true }, kinds := [], alts := [], laidByText := true, laidKinds := [.data, .data, .data, .data, .sentinel, .sentinel, .data, .pinned], laidTests := true, laidLooks := .later }
def BookByteCardSaid : Prop := Claim7.holds Tryz.pinned (.plain (OpenSpec.ofChange bookByteSpec)) bookByteCard

/-- THE TIED CARD OF 'dipworkslaw14.BookMend'. -/
def bookMendCard : Claim7 := { stood := { row := bookMendRow, standIns := [], harness := (true, "897d6e52f0714186e3149b9adc998af31876b18dc80bc7b7c554682996da192d"), looks := true }, kinds := [], alts := [], laidByText := true, laidKinds := [.data, .data, .data, .data, .sentinel, .sentinel, .data, .pinned], laidTests := true, laidLooks := .later }
def BookMendCardSaid : Prop := Claim7.holds Tryz.pinned (.plain (OpenSpec.ofChange bookMendSpec)) bookMendCard

/-- THE TIED CARD OF 'dipworkslaw14.BookReads'. -/
def bookReadsCard : Claim7 := { stood := { row := bookReadsRow, standIns := [], harness := (true, "897d6e52f0714186e3149b9adc998af31876b18dc80bc7b7c554682996da192d"), looks := true }, kinds := [], alts := [], laidByText := true, laidKinds := [.data, .data, .data, .data, .sentinel, .sentinel, .data, .pinned], laidTests := true, laidLooks := .later }
def BookReadsCardSaid : Prop := Claim7.holds Tryz.pinned (.plain (OpenSpec.ofChange bookReadsSpec)) bookReadsCard

/-- THE TIED CARD OF 'dipworkslaw14.BookBack'. -/
def bookBackCard : Claim7 := { stood := { row := bookBackRow, standIns := [], harness := (true, "897d6e52f0714186e3149b9adc998af31876b18dc80bc7b7c554682996da192d"), looks := true }, kinds := [], alts := [], laidByText := true, laidKinds := [.data, .data, .data, .data, .sentinel, .sentinel, .data, .pinned], laidTests := true, laidLooks := .later }
def BookBackCardSaid : Prop := Claim7.holds Tryz.pinned (.plain (OpenSpec.ofChange bookBackSpec)) bookBackCard

/-- THE TIED CARD OF 'dipworkslaw14.BookAgain'. -/
def bookAgainCard : Claim7 := { stood := { row := bookAgainRow, standIns := [], harness := (true, "897d6e52f0714186e3149b9adc998af31876b18dc80bc7b7c554682996da192d"), looks := true }, kinds := [], alts := [], laidByText := true, laidKinds := [.data, .data, .data, .data, .sentinel, .sentinel, .data, .pinned], laidTests := true, laidLooks := .later }
def BookAgainCardSaid : Prop := Claim7.holds Tryz.pinned (.plain (OpenSpec.ofChange bookAgainSpec)) bookAgainCard

/-- THE TIED CARD OF 'dipworkslaw14.BookLines'. -/
def bookLinesCard : Claim7 := { stood := { row := bookLinesRow, standIns := [], harness := (true, "897d6e52f0714186e3149b9adc998af31876b18dc80bc7b7c554682996da192d"), looks := true }, kinds := [], alts := [], laidByText := true, laidKinds := [.data, .data, .data, .data, .sentinel, .sentinel, .data, .pinned], laidTests := true, laidLooks := .later }
def BookLinesCardSaid : Prop := Claim7.holds Tryz.pinned (.plain (OpenSpec.ofChange bookLinesSpec)) bookLinesCard

/-- THE SECOND FORM's CARD OF 'dipworkslaw14.BookWrites'. -/
def bookWritesUptoCard : Claim7 := { stood := { row := bookWritesUptoRow, standIns := [], harness := (true, "897d6e52f0714186e3149b9adc998af31876b18dc80bc7b7c554682996da192d"), looks := true }, kinds := [], alts := [], laidByText := true, laidKinds := [.data, .data, .data, .data, .sentinel, .sentinel, .data, .pinned], laidTests := true, laidLooks := .later }
def BookWritesUptoCardSaid : Prop := Claim7.holds Tryz.pinned (.plain (OpenSpec.upto bookWritesSpec)) bookWritesUptoCard

/-- THE SECOND FORM's CARD OF 'dipworkslaw14.BookMends'. -/
def bookMendsUptoCard : Claim7 := { stood := { row := bookMendsUptoRow, standIns := [], harness := (true, "897d6e52f0714186e3149b9adc998af31876b18dc80bc7b7c554682996da192d"), looks := true }, kinds := [], alts := [], laidByText := true, laidKinds := [.data, .data, .data, .data, .sentinel, .sentinel, .data, .pinned], laidTests := true, laidLooks := .later }
def BookMendsUptoCardSaid : Prop := Claim7.holds Tryz.pinned (.plain (OpenSpec.upto bookMendsSpec)) bookMendsUptoCard

/-- THE SECOND FORM's CARD OF 'dipworkslaw14.BookApart'. -/
def bookApartUptoCard : Claim7 := { stood := { row := bookApartUptoRow, standIns := [], harness := (true, "897d6e52f0714186e3149b9adc998af31876b18dc80bc7b7c554682996da192d"), looks := true }, kinds := [], alts := [], laidByText := true, laidKinds := [.data, .data, .data, .data, .sentinel, .sentinel, .data, .pinned], laidTests := true, laidLooks := .later }
def BookApartUptoCardSaid : Prop := Claim7.holds Tryz.pinned (.plain (OpenSpec.upto bookApartSpec)) bookApartUptoCard

/-- THE SECOND FORM's CARD OF 'dipworkslaw14.BookByte'. -/
def bookByteUptoCard : Claim7 := { stood := { row := bookByteUptoRow, standIns := [], harness := (true, "897d6e52f0714186e3149b9adc998af31876b18dc80bc7b7c554682996da192d"), looks := true }, kinds := [], alts := [], laidByText := true, laidKinds := [.data, .data, .data, .data, .sentinel, .sentinel, .data, .pinned], laidTests := true, laidLooks := .later }
def BookByteUptoCardSaid : Prop := Claim7.holds Tryz.pinned (.plain (OpenSpec.upto bookByteSpec)) bookByteUptoCard

/-- THE SECOND FORM's CARD OF 'dipworkslaw14.BookMend'. -/
def bookMendUptoCard : Claim7 := { stood := { row := bookMendUptoRow, standIns := [], harness := (true, "897d6e52f0714186e3149b9adc998af31876b18dc80bc7b7c554682996da192d"), looks := true }, kinds := [], alts := [], laidByText := true, laidKinds := [.data, .data, .data, .data, .sentinel, .sentinel, .data, .pinned], laidTests := true, laidLooks := .later }
def BookMendUptoCardSaid : Prop := Claim7.holds Tryz.pinned (.plain (OpenSpec.upto bookMendSpec)) bookMendUptoCard

/-- THE SECOND FORM's CARD OF 'dipworkslaw14.BookReads'. -/
def bookReadsUptoCard : Claim7 := { stood := { row := bookReadsUptoRow, standIns := [], harness := (true, "897d6e52f0714186e3149b9adc998af31876b18dc80bc7b7c554682996da192d"), looks := true }, kinds := [], alts := [], laidByText := true, laidKinds := [.data, .data, .data, .data, .sentinel, .sentinel, .data, .pinned], laidTests := true, laidLooks := .later }
def BookReadsUptoCardSaid : Prop := Claim7.holds Tryz.pinned (.plain (OpenSpec.upto bookReadsSpec)) bookReadsUptoCard

/-- THE SECOND FORM's CARD OF 'dipworkslaw14.BookBack'. -/
def bookBackUptoCard : Claim7 := { stood := { row := bookBackUptoRow, standIns := [], harness := (true, "897d6e52f0714186e3149b9adc998af31876b18dc80bc7b7c554682996da192d"), looks := true }, kinds := [], alts := [], laidByText := true, laidKinds := [.data, .data, .data, .data, .sentinel, .sentinel, .data, .pinned], laidTests := true, laidLooks := .later }
def BookBackUptoCardSaid : Prop := Claim7.holds Tryz.pinned (.plain (OpenSpec.upto bookBackSpec)) bookBackUptoCard

/-- THE SECOND FORM's CARD OF 'dipworkslaw14.BookAgain'. -/
def bookAgainUptoCard : Claim7 := { stood := { row := bookAgainUptoRow, standIns := [], harness := (true, "897d6e52f0714186e3149b9adc998af31876b18dc80bc7b7c554682996da192d"), looks := true }, kinds := [], alts := [], laidByText := true, laidKinds := [.data, .data, .data, .data, .sentinel, .sentinel, .data, .pinned], laidTests := true, laidLooks := .later }
def BookAgainUptoCardSaid : Prop := Claim7.holds Tryz.pinned (.plain (OpenSpec.upto bookAgainSpec)) bookAgainUptoCard

/-- THE SECOND FORM's CARD OF 'dipworkslaw14.BookLines'. -/
def bookLinesUptoCard : Claim7 := { stood := { row := bookLinesUptoRow, standIns := [], harness := (true, "897d6e52f0714186e3149b9adc998af31876b18dc80bc7b7c554682996da192d"), looks := true }, kinds := [], alts := [], laidByText := true, laidKinds := [.data, .data, .data, .data, .sentinel, .sentinel, .data, .pinned], laidTests := true, laidLooks := .later }
def BookLinesUptoCardSaid : Prop := Claim7.holds Tryz.pinned (.plain (OpenSpec.upto bookLinesSpec)) bookLinesUptoCard
end Rows
end Go.Proofs.YtaebnllfmkcpgaaGreatDoor
