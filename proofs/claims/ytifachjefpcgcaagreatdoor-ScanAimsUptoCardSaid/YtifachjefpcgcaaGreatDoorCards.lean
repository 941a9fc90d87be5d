/-
  DERIVED. GIVEN WITH THE SEED: THE CARDS: each row of YtifachjefpcgcaaGreatDoorRows.lean that lists a variable, with what it lists TIED to the program's text (the seventh form; the later family's looks); each row that meets fmt, with fmt's text TOLD by the authors' own Lean function (tested against real Go, not proved from fmt's source: count such statements apart). THE CARD IS WHAT COUNTS. Prove the row's statement (the work); the ties are given (YtifachjefpcgcaaGreatDoorTie.lean); close each card by the builder's one call (the guide's Derived/Test/ToyasCard.lean, 'card_holds'). Laid BY PROGRAM, IN A SANDBOX (cutbox-door.mjs). By AI agents, Wed Nov 11 2026. No macro, syntax, notation, axiom, sorry.
-/
import Derived.Test.YtifachjefpcgcaaGreatDoorRows
import GoSem.ClaimSeven
namespace Go.Proofs.YtifachjefpcgcaaGreatDoor
namespace Rows

/-- THE TIED CARD OF 'treadlelaw13.ScanAims'. -/
def scanAimsCard : Claim7 := { stood := { row := scanAimsRow, standIns := [], harness := (true, "5ac701b9eaf0a5289183b2d81309ef6c609967f31a1e5400013c3b564ebb8d13"), looks := true }, kinds := [], alts := [], laidByText := true, laidKinds := [.data, .data, .data, .data, .sentinel, .sentinel, .pinned], laidTests := true, laidLooks := .later }
def ScanAimsCardSaid : Prop := Claim7.holds Tryz.pinned (.plain (OpenSpec.ofChange scanAimsSpec)) scanAimsCard

/-- THE TIED CARD OF 'treadlelaw13.ScanOwn'. -/
def scanOwnCard : Claim7 := { stood := { row := scanOwnRow, standIns := [], harness := (true, "5ac701b9eaf0a5289183b2d81309ef6c609967f31a1e5400013c3b564ebb8d13"), looks := true }, kinds := [], alts := [], laidByText := true, laidKinds := [.data, .data, .data, .data, .sentinel, .sentinel, .pinned], laidTests := true, laidLooks := .later }
def ScanOwnCardSaid : Prop := Claim7.holds Tryz.pinned (.plain (OpenSpec.ofChange scanOwnSpec)) scanOwnCard

/-- THE SECOND FORM's CARD OF 'treadlelaw13.ScanAims'. -/
def scanAimsUptoCard : Claim7 := { stood := { row := scanAimsUptoRow, standIns := [], harness := (true, "5ac701b9eaf0a5289183b2d81309ef6c609967f31a1e5400013c3b564ebb8d13"), looks := true }, kinds := [], alts := [], laidByText := true, laidKinds := [.data, .data, .data, .data, .sentinel, .sentinel, .pinned], laidTests := true, laidLooks := .later }
def ScanAimsUptoCardSaid : Prop := Claim7.holds Tryz.pinned (.plain (OpenSpec.upto scanAimsSpec)) scanAimsUptoCard

/-- THE SECOND FORM's CARD OF 'treadlelaw13.ScanOwn'. -/
def scanOwnUptoCard : Claim7 := { stood := { row := scanOwnUptoRow, standIns := [], harness := (true, "5ac701b9eaf0a5289183b2d81309ef6c609967f31a1e5400013c3b564ebb8d13"), looks := true }, kinds := [], alts := [], laidByText := true, laidKinds := [.data, .data, .data, .data, .sentinel, .sentinel, .pinned], laidTests := true, laidLooks := .later }
def ScanOwnUptoCardSaid : Prop := Claim7.holds Tryz.pinned (.plain (OpenSpec.upto scanOwnSpec)) scanOwnUptoCard
end Rows
end Go.Proofs.YtifachjefpcgcaaGreatDoor
