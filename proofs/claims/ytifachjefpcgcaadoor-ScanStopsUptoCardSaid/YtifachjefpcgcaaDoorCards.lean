/-
  DERIVED. GIVEN WITH THE SEED: THE CARDS: each row of YtifachjefpcgcaaDoorRows.lean that lists a variable, with what it lists TIED to the program's text (the seventh form; the later family's looks); each row that meets fmt, with fmt's text TOLD by the authors' own Lean function (tested against real Go, not proved from fmt's source: count such statements apart). THE CARD IS WHAT COUNTS. Prove the row's statement (the work); the ties are given (YtifachjefpcgcaaDoorTie.lean); close each card by the builder's one call (the guide's Derived/Test/ToyasCard.lean, 'card_holds'). Laid BY PROGRAM, IN A SANDBOX (cutbox-door.mjs). By AI agents, Wed Nov 11 2026. No macro, syntax, notation, axiom, sorry.
-/
import Derived.Test.YtifachjefpcgcaaDoorRows
import GoSem.ClaimSeven
namespace Go.Proofs.YtifachjefpcgcaaDoor
namespace Rows

/-- THE TIED CARD OF 'treadlelaw13.ScanFinds'. -/
def scanFindsCard : Claim7 := { stood := { row := scanFindsRow, standIns := [], harness := (true, "2e982b8e42fa3f3eb177cd4c9b5c06fdd4f467168f820e842258ad7c39e3340d"), looks := true }, kinds := [], alts := [], laidByText := true, laidKinds := [.data, .data, .data, .sentinel, .sentinel], laidTests := true, laidLooks := .later }
def ScanFindsCardSaid : Prop := Claim7.holds Tryd.pinned (.plain (OpenSpec.ofChange scanFindsSpec)) scanFindsCard

/-- THE TIED CARD OF 'treadlelaw13.ScanPuts'. -/
def scanPutsCard : Claim7 := { stood := { row := scanPutsRow, standIns := [], harness := (true, "2e982b8e42fa3f3eb177cd4c9b5c06fdd4f467168f820e842258ad7c39e3340d"), looks := true }, kinds := [], alts := [], laidByText := true, laidKinds := [.data, .data, .data, .sentinel, .sentinel], laidTests := true, laidLooks := .later }
def ScanPutsCardSaid : Prop := Claim7.holds Tryd.pinned (.plain (OpenSpec.ofChange scanPutsSpec)) scanPutsCard

/-- THE TIED CARD OF 'treadlelaw13.ScanBack'. -/
def scanBackCard : Claim7 := { stood := { row := scanBackRow, standIns := [], harness := (true, "2e982b8e42fa3f3eb177cd4c9b5c06fdd4f467168f820e842258ad7c39e3340d"), looks := true }, kinds := [], alts := [], laidByText := true, laidKinds := [.data, .data, .data, .sentinel, .sentinel], laidTests := true, laidLooks := .later }
def ScanBackCardSaid : Prop := Claim7.holds Tryd.pinned (.plain (OpenSpec.ofChange scanBackSpec)) scanBackCard

/-- THE TIED CARD OF 'treadlelaw13.ScanStops'. -/
def scanStopsCard : Claim7 := { stood := { row := scanStopsRow, standIns := [], harness := (true, "2e982b8e42fa3f3eb177cd4c9b5c06fdd4f467168f820e842258ad7c39e3340d"), looks := true }, kinds := [], alts := [], laidByText := true, laidKinds := [.data, .data, .data, .sentinel, .sentinel], laidTests := true, laidLooks := .later }
def ScanStopsCardSaid : Prop := Claim7.holds Tryd.pinned (.plain (OpenSpec.ofChange scanStopsSpec)) scanStopsCard

/-- THE SECOND FORM's CARD OF 'treadlelaw13.ScanFinds'. -/
def scanFindsUptoCard : Claim7 := { stood := { row := scanFindsUptoRow, standIns := [], harness := (true, "2e982b8e42fa3f3eb177cd4c9b5c06fdd4f467168f820e842258ad7c39e3340d"), looks := true }, kinds := [], alts := [], laidByText := true, laidKinds := [.data, .data, .data, .sentinel, .sentinel], laidTests := true, laidLooks := .later }
def ScanFindsUptoCardSaid : Prop := Claim7.holds Tryd.pinned (.plain (OpenSpec.upto scanFindsSpec)) scanFindsUptoCard

/-- THE SECOND FORM's CARD OF 'treadlelaw13.ScanPuts'. -/
def scanPutsUptoCard : Claim7 := { stood := { row := scanPutsUptoRow, standIns := [], harness := (true, "2e982b8e42fa3f3eb177cd4c9b5c06fdd4f467168f820e842258ad7c39e3340d"), looks := true }, kinds := [], alts := [], laidByText := true, laidKinds := [.data, .data, .data, .sentinel, .sentinel], laidTests := true, laidLooks := .later }
def ScanPutsUptoCardSaid : Prop := Claim7.holds Tryd.pinned (.plain (OpenSpec.upto scanPutsSpec)) scanPutsUptoCard

/-- THE SECOND FORM's CARD OF 'treadlelaw13.ScanBack'. -/
def scanBackUptoCard : Claim7 := { stood := { row := scanBackUptoRow, standIns := [], harness := (true, "2e982b8e42fa3f3eb177cd4c9b5c06fdd4f467168f820e842258ad7c39e3340d"), looks := true }, kinds := [], alts := [], laidByText := true, laidKinds := [.data, .data, .data, .sentinel, .sentinel], laidTests := true, laidLooks := .later }
def ScanBackUptoCardSaid : Prop := Claim7.holds Tryd.pinned (.plain (OpenSpec.upto scanBackSpec)) scanBackUptoCard

/-- THE SECOND FORM's CARD OF 'treadlelaw13.ScanStops'. -/
def scanStopsUptoCard : Claim7 := { stood := { row := scanStopsUptoRow, standIns := [], harness := (true, "2e982b8e42fa3f3eb177cd4c9b5c06fdd4f467168f820e842258ad7c39e3340d"), looks := true }, kinds := [], alts := [], laidByText := true, laidKinds := [.data, .data, .data, .sentinel, .sentinel], laidTests := true, laidLooks := .later }
def ScanStopsUptoCardSaid : Prop := Claim7.holds Tryd.pinned (.plain (OpenSpec.upto scanStopsSpec)) scanStopsUptoCard
end Rows
end Go.Proofs.YtifachjefpcgcaaDoor
