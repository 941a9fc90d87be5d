/-
  DERIVED. GIVEN WITH THE SEED: THE CARDS: each row of YtflmcglppeehgaaDoorRows.lean that lists a variable, with what it lists TIED to the program's text (the seventh form; the later family's looks); each row that meets fmt, with fmt's text TOLD by the authors' own Lean function (tested against real Go, not proved from fmt's source: count such statements apart). THE CARD IS WHAT COUNTS. Prove the row's statement (the work); the ties are given (YtflmcglppeehgaaDoorTie.lean); close each card by the builder's one call (the guide's Derived/Test/ToyasCard.lean, 'card_holds'). Laid BY PROGRAM, IN A SANDBOX (cutbox-door.mjs). By AI agents, Wed Nov 11 2026. No macro, syntax, notation, axiom, sorry.
-/
import Derived.Test.YtflmcglppeehgaaDoorRows
import GoSem.ClaimSeven
namespace Go.Proofs.YtflmcglppeehgaaDoor
namespace Rows

/-- THE TIED CARD OF 'treadlelaw12.LexNexts'. -/
def lexNextsCard : Claim7 := { stood := { row := lexNextsRow, standIns := [], harness := (true, "96d0c6353b00636b5948a5642a328faeef0c47d8a8fcf9b9ecd125c786489822"), looks := true }, kinds := [], alts := [], laidByText := true, laidKinds := [.data, .data, .data, .sentinel, .sentinel], laidTests := true, laidLooks := .later }
def LexNextsCardSaid : Prop := Claim7.holds Tryd.pinned (.plain (OpenSpec.ofChange lexNextsSpec)) lexNextsCard

/-- THE TIED CARD OF 'treadlelaw12.LexAlls'. -/
def lexAllsCard : Claim7 := { stood := { row := lexAllsRow, standIns := [], harness := (true, "96d0c6353b00636b5948a5642a328faeef0c47d8a8fcf9b9ecd125c786489822"), looks := true }, kinds := [], alts := [], laidByText := true, laidKinds := [.data, .data, .data, .sentinel, .sentinel], laidTests := true, laidLooks := .later }
def LexAllsCardSaid : Prop := Claim7.holds Tryd.pinned (.plain (OpenSpec.ofChange lexAllsSpec)) lexAllsCard

/-- THE TIED CARD OF 'treadlelaw12.LexMunch'. -/
def lexMunchCard : Claim7 := { stood := { row := lexMunchRow, standIns := [], harness := (true, "96d0c6353b00636b5948a5642a328faeef0c47d8a8fcf9b9ecd125c786489822"), looks := true }, kinds := [], alts := [], laidByText := true, laidKinds := [.data, .data, .data, .sentinel, .sentinel], laidTests := true, laidLooks := .later }
def LexMunchCardSaid : Prop := Claim7.holds Tryd.pinned (.plain (OpenSpec.ofChange lexMunchSpec)) lexMunchCard

/-- THE TIED CARD OF 'treadlelaw12.LexSpreads'. -/
def lexSpreadsCard : Claim7 := { stood := { row := lexSpreadsRow, standIns := [], harness := (true, "96d0c6353b00636b5948a5642a328faeef0c47d8a8fcf9b9ecd125c786489822"), looks := true }, kinds := [], alts := [], laidByText := true, laidKinds := [.data, .data, .data, .sentinel, .sentinel], laidTests := true, laidLooks := .later }
def LexSpreadsCardSaid : Prop := Claim7.holds Tryd.pinned (.plain (OpenSpec.ofChange lexSpreadsSpec)) lexSpreadsCard

/-- THE TIED CARD OF 'treadlelaw12.LexLost'. -/
def lexLostCard : Claim7 := { stood := { row := lexLostRow, standIns := [], harness := (true, "96d0c6353b00636b5948a5642a328faeef0c47d8a8fcf9b9ecd125c786489822"), looks := true }, kinds := [], alts := [], laidByText := true, laidKinds := [.data, .data, .data, .sentinel, .sentinel], laidTests := true, laidLooks := .later }
def LexLostCardSaid : Prop := Claim7.holds Tryd.pinned (.plain (OpenSpec.ofChange lexLostSpec)) lexLostCard

/-- THE TIED CARD OF 'treadlelaw12.LexFirst'. -/
def lexFirstCard : Claim7 := { stood := { row := lexFirstRow, standIns := [], harness := (true, "96d0c6353b00636b5948a5642a328faeef0c47d8a8fcf9b9ecd125c786489822"), looks := true }, kinds := [], alts := [], laidByText := true, laidKinds := [.data, .data, .data, .sentinel, .sentinel], laidTests := true, laidLooks := .later }
def LexFirstCardSaid : Prop := Claim7.holds Tryd.pinned (.plain (OpenSpec.ofChange lexFirstSpec)) lexFirstCard

/-- THE TIED CARD OF 'treadlelaw12.LexOwn'. -/
def lexOwnCard : Claim7 := { stood := { row := lexOwnRow, standIns := [], harness := (true, "96d0c6353b00636b5948a5642a328faeef0c47d8a8fcf9b9ecd125c786489822"), looks := true }, kinds := [], alts := [], laidByText := true, laidKinds := [.data, .data, .data, .sentinel, .sentinel], laidTests := true, laidLooks := .later }
def LexOwnCardSaid : Prop := Claim7.holds Tryd.pinned (.plain (OpenSpec.ofChange lexOwnSpec)) lexOwnCard

/-- THE TIED CARD OF 'treadlelaw12.LexReads'. -/
def lexReadsCard : Claim7 := { stood := { row := lexReadsRow, standIns := [], harness := (true, "96d0c6353b00636b5948a5642a328faeef0c47d8a8fcf9b9ecd125c786489822"), looks := true }, kinds := [], alts := [], laidByText := true, laidKinds := [.data, .data, .data, .sentinel, .sentinel], laidTests := true, laidLooks := .later }
def LexReadsCardSaid : Prop := Claim7.holds Tryd.pinned (.plain (OpenSpec.ofChange lexReadsSpec)) lexReadsCard

/-- THE TIED CARD OF 'treadlelaw12.LexQuotes'. -/
def lexQuotesCard : Claim7 := { stood := { row := lexQuotesRow, standIns := [], harness := (true, "96d0c6353b00636b5948a5642a328faeef0c47d8a8fcf9b9ecd125c786489822"), looks := true }, kinds := [], alts := [], laidByText := true, laidKinds := [.data, .data, .data, .sentinel, .sentinel], laidTests := true, laidLooks := .later }
def LexQuotesCardSaid : Prop := Claim7.holds Tryd.pinned (.plain (OpenSpec.ofChange lexQuotesSpec)) lexQuotesCard

/-- THE TIED CARD OF 'treadlelaw12.LexBack'. -/
def lexBackCard : Claim7 := { stood := { row := lexBackRow, standIns := [], harness := (true, "96d0c6353b00636b5948a5642a328faeef0c47d8a8fcf9b9ecd125c786489822"), looks := true }, kinds := [], alts := [], laidByText := true, laidKinds := [.data, .data, .data, .sentinel, .sentinel], laidTests := true, laidLooks := .later }
def LexBackCardSaid : Prop := Claim7.holds Tryd.pinned (.plain (OpenSpec.ofChange lexBackSpec)) lexBackCard

/-- THE TIED CARD OF 'treadlelaw12.LexPlaces'. -/
def lexPlacesCard : Claim7 := { stood := { row := lexPlacesRow, standIns := [], harness := (true, "96d0c6353b00636b5948a5642a328faeef0c47d8a8fcf9b9ecd125c786489822"), looks := true }, kinds := [], alts := [], laidByText := true, laidKinds := [.data, .data, .data, .sentinel, .sentinel], laidTests := true, laidLooks := .later }
def LexPlacesCardSaid : Prop := Claim7.holds Tryd.pinned (.plain (OpenSpec.ofChange lexPlacesSpec)) lexPlacesCard

/-- THE SECOND FORM's CARD OF 'treadlelaw12.LexNexts'. -/
def lexNextsUptoCard : Claim7 := { stood := { row := lexNextsUptoRow, standIns := [], harness := (true, "96d0c6353b00636b5948a5642a328faeef0c47d8a8fcf9b9ecd125c786489822"), looks := true }, kinds := [], alts := [], laidByText := true, laidKinds := [.data, .data, .data, .sentinel, .sentinel], laidTests := true, laidLooks := .later }
def LexNextsUptoCardSaid : Prop := Claim7.holds Tryd.pinned (.plain (OpenSpec.upto lexNextsSpec)) lexNextsUptoCard

/-- THE SECOND FORM's CARD OF 'treadlelaw12.LexAlls'. -/
def lexAllsUptoCard : Claim7 := { stood := { row := lexAllsUptoRow, standIns := [], harness := (true, "96d0c6353b00636b5948a5642a328faeef0c47d8a8fcf9b9ecd125c786489822"), looks := true }, kinds := [], alts := [], laidByText := true, laidKinds := [.data, .data, .data, .sentinel, .sentinel], laidTests := true, laidLooks := .later }
def LexAllsUptoCardSaid : Prop := Claim7.holds Tryd.pinned (.plain (OpenSpec.upto lexAllsSpec)) lexAllsUptoCard

/-- THE SECOND FORM's CARD OF 'treadlelaw12.LexMunch'. -/
def lexMunchUptoCard : Claim7 := { stood := { row := lexMunchUptoRow, standIns := [], harness := (true, "96d0c6353b00636b5948a5642a328faeef0c47d8a8fcf9b9ecd125c786489822"), looks := true }, kinds := [], alts := [], laidByText := true, laidKinds := [.data, .data, .data, .sentinel, .sentinel], laidTests := true, laidLooks := .later }
def LexMunchUptoCardSaid : Prop := Claim7.holds Tryd.pinned (.plain (OpenSpec.upto lexMunchSpec)) lexMunchUptoCard

/-- THE SECOND FORM's CARD OF 'treadlelaw12.LexSpreads'. -/
def lexSpreadsUptoCard : Claim7 := { stood := { row := lexSpreadsUptoRow, standIns := [], harness := (true, "96d0c6353b00636b5948a5642a328faeef0c47d8a8fcf9b9ecd125c786489822"), looks := true }, kinds := [], alts := [], laidByText := true, laidKinds := [.data, .data, .data, .sentinel, .sentinel], laidTests := true, laidLooks := .later }
def LexSpreadsUptoCardSaid : Prop := Claim7.holds Tryd.pinned (.plain (OpenSpec.upto lexSpreadsSpec)) lexSpreadsUptoCard

/-- THE SECOND FORM's CARD OF 'treadlelaw12.LexLost'. -/
def lexLostUptoCard : Claim7 := { stood := { row := lexLostUptoRow, standIns := [], harness := (true, "96d0c6353b00636b5948a5642a328faeef0c47d8a8fcf9b9ecd125c786489822"), looks := true }, kinds := [], alts := [], laidByText := true, laidKinds := [.data, .data, .data, .sentinel, .sentinel], laidTests := true, laidLooks := .later }
def LexLostUptoCardSaid : Prop := Claim7.holds Tryd.pinned (.plain (OpenSpec.upto lexLostSpec)) lexLostUptoCard

/-- THE SECOND FORM's CARD OF 'treadlelaw12.LexFirst'. -/
def lexFirstUptoCard : Claim7 := { stood := { row := lexFirstUptoRow, standIns := [], harness := (true, "96d0c6353b00636b5948a5642a328faeef0c47d8a8fcf9b9ecd125c786489822"), looks := true }, kinds := [], alts := [], laidByText := true, laidKinds := [.data, .data, .data, .sentinel, .sentinel], laidTests := true, laidLooks := .later }
def LexFirstUptoCardSaid : Prop := Claim7.holds Tryd.pinned (.plain (OpenSpec.upto lexFirstSpec)) lexFirstUptoCard

/-- THE SECOND FORM's CARD OF 'treadlelaw12.LexOwn'. -/
def lexOwnUptoCard : Claim7 := { stood := { row := lexOwnUptoRow, standIns := [], harness := (true, "96d0c6353b00636b5948a5642a328faeef0c47d8a8fcf9b9ecd125c786489822"), looks := true }, kinds := [], alts := [], laidByText := true, laidKinds := [.data, .data, .data, .sentinel, .sentinel], laidTests := true, laidLooks := .later }
def LexOwnUptoCardSaid : Prop := Claim7.holds Tryd.pinned (.plain (OpenSpec.upto lexOwnSpec)) lexOwnUptoCard

/-- THE SECOND FORM's CARD OF 'treadlelaw12.LexReads'. -/
def lexReadsUptoCard : Claim7 := { stood := { row := lexReadsUptoRow, standIns := [], harness := (true, "96d0c6353b00636b5948a5642a328faeef0c47d8a8fcf9b9ecd125c786489822"), looks := true }, kinds := [], alts := [], laidByText := true, laidKinds := [.data, .data, .data, .sentinel, .sentinel], laidTests := true, laidLooks := .later }
def LexReadsUptoCardSaid : Prop := Claim7.holds Tryd.pinned (.plain (OpenSpec.upto lexReadsSpec)) lexReadsUptoCard

/-- THE SECOND FORM's CARD OF 'treadlelaw12.LexQuotes'. -/
def lexQuotesUptoCard : Claim7 := { stood := { row := lexQuotesUptoRow, standIns := [], harness := (true, "96d0c6353b00636b5948a5642a328faeef0c47d8a8fcf9b9ecd125c786489822"), looks := true }, kinds := [], alts := [], laidByText := true, laidKinds := [.data, .data, .data, .sentinel, .sentinel], laidTests := true, laidLooks := .later }
def LexQuotesUptoCardSaid : Prop := Claim7.holds Tryd.pinned (.plain (OpenSpec.upto lexQuotesSpec)) lexQuotesUptoCard

/-- THE SECOND FORM's CARD OF 'treadlelaw12.LexBack'. -/
def lexBackUptoCard : Claim7 := { stood := { row := lexBackUptoRow, standIns := [], harness := (true, "96d0c6353b00636b5948a5642a328faeef0c47d8a8fcf9b9ecd125c786489822"), looks := true }, kinds := [], alts := [], laidByText := true, laidKinds := [.data, .data, .data, .sentinel, .sentinel], laidTests := true, laidLooks := .later }
def LexBackUptoCardSaid : Prop := Claim7.holds Tryd.pinned (.plain (OpenSpec.upto lexBackSpec)) lexBackUptoCard

/-- THE SECOND FORM's CARD OF 'treadlelaw12.LexPlaces'. -/
def lexPlacesUptoCard : Claim7 := { stood := { row := lexPlacesUptoRow, standIns := [], harness := (true, "96d0c6353b00636b5948a5642a328faeef0c47d8a8fcf9b9ecd125c786489822"), looks := true }, kinds := [], alts := [], laidByText := true, laidKinds := [.data, .data, .data, .sentinel, .sentinel], laidTests := true, laidLooks := .later }
def LexPlacesUptoCardSaid : Prop := Claim7.holds Tryd.pinned (.plain (OpenSpec.upto lexPlacesSpec)) lexPlacesUptoCard
end Rows
end Go.Proofs.YtflmcglppeehgaaDoor
