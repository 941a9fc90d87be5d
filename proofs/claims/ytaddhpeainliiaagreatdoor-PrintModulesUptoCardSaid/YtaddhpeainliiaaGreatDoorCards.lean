/-
  DERIVED. GIVEN WITH THE SEED: THE CARDS: each row of YtaddhpeainliiaaGreatDoorRows.lean that lists a variable, with what it lists TIED to the program's text (the seventh form; the later family's looks); each row that meets fmt, with fmt's text TOLD by the authors' own Lean function (tested against real Go, not proved from fmt's source: count such statements apart). THE CARD IS WHAT COUNTS. Prove the row's statement (the work); the ties are given (YtaddhpeainliiaaGreatDoorTie.lean); close each card by the builder's one call (the guide's Derived/Test/ToyasCard.lean, 'card_holds'). Laid BY PROGRAM, IN A SANDBOX (cutbox-door.mjs). By AI agents, Wed Nov 11 2026. No macro, syntax, notation, axiom, sorry.
-/
import Derived.Test.YtaddhpeainliiaaGreatDoorRows
import GoSem.ClaimSeven
namespace Go.Proofs.YtaddhpeainliiaaGreatDoor
namespace Rows

/-- THE TIED CARD OF 'treadlelaw15.PrintSames'. -/
def printSamesCard : Claim7 := { stood := { row := printSamesRow, standIns := [], harness := (true, "9adbe7fdbf3e09ebf5a108d252a5ae9329c70de8432a2babdf26d1d04a1b6ec9"), looks := true }, kinds := [], alts := [], laidByText := true, laidKinds := [.data, .data, .data, .sentinel, .sentinel], laidTests := true, laidLooks := .later }
def PrintSamesCardSaid : Prop := Claim7.holds Tryz.pinned (.plain (OpenSpec.ofChange printSamesSpec)) printSamesCard

/-- THE TIED CARD OF 'treadlelaw15.PrintModules'. -/
def printModulesCard : Claim7 := { stood := { row := printModulesRow, standIns := [], harness := (true, "9adbe7fdbf3e09ebf5a108d252a5ae9329c70de8432a2babdf26d1d04a1b6ec9"), looks := true }, kinds := [], alts := [], laidByText := true, laidKinds := [.data, .data, .data, .sentinel, .sentinel], laidTests := true, laidLooks := .later }
def PrintModulesCardSaid : Prop := Claim7.holds Tryz.pinned (.plain (OpenSpec.ofChange printModulesSpec)) printModulesCard

/-- THE TIED CARD OF 'treadlelaw15.PrintOwn'. -/
def printOwnCard : Claim7 := { stood := { row := printOwnRow, standIns := [], harness := (true, "9adbe7fdbf3e09ebf5a108d252a5ae9329c70de8432a2babdf26d1d04a1b6ec9"), looks := true }, kinds := [], alts := [], laidByText := true, laidKinds := [.data, .data, .data, .sentinel, .sentinel], laidTests := true, laidLooks := .later }
def PrintOwnCardSaid : Prop := Claim7.holds Tryz.pinned (.plain (OpenSpec.ofChange printOwnSpec)) printOwnCard

/-- THE TIED CARD OF 'treadlelaw15.PrintExprs'. -/
def printExprsCard : Claim7 := { stood := { row := printExprsRow, standIns := [], harness := (true, "9adbe7fdbf3e09ebf5a108d252a5ae9329c70de8432a2babdf26d1d04a1b6ec9"), looks := true }, kinds := [], alts := [], laidByText := true, laidKinds := [.data, .data, .data, .sentinel, .sentinel], laidTests := true, laidLooks := .later }
def PrintExprsCardSaid : Prop := Claim7.holds Tryz.pinned (.plain (OpenSpec.ofChange printExprsSpec)) printExprsCard

/-- THE TIED CARD OF 'treadlelaw15.PrintBack'. -/
def printBackCard : Claim7 := { stood := { row := printBackRow, standIns := [], harness := (true, "9adbe7fdbf3e09ebf5a108d252a5ae9329c70de8432a2babdf26d1d04a1b6ec9"), looks := true }, kinds := [], alts := [], laidByText := true, laidKinds := [.data, .data, .data, .sentinel, .sentinel], laidTests := true, laidLooks := .later }
def PrintBackCardSaid : Prop := Claim7.holds Tryz.pinned (.plain (OpenSpec.ofChange printBackSpec)) printBackCard

/-- THE TIED CARD OF 'treadlelaw15.PrintFormats'. -/
def printFormatsCard : Claim7 := { stood := { row := printFormatsRow, standIns := [], harness := (true, "9adbe7fdbf3e09ebf5a108d252a5ae9329c70de8432a2babdf26d1d04a1b6ec9"), looks := true }, kinds := [], alts := [], laidByText := true, laidKinds := [.data, .data, .data, .sentinel, .sentinel], laidTests := true, laidLooks := .later }
def PrintFormatsCardSaid : Prop := Claim7.holds Tryz.pinned (.plain (OpenSpec.ofChange printFormatsSpec)) printFormatsCard

/-- THE TIED CARD OF 'treadlelaw15.PrintAgain'. -/
def printAgainCard : Claim7 := { stood := { row := printAgainRow, standIns := [], harness := (true, "9adbe7fdbf3e09ebf5a108d252a5ae9329c70de8432a2babdf26d1d04a1b6ec9"), looks := true }, kinds := [], alts := [], laidByText := true, laidKinds := [.data, .data, .data, .sentinel, .sentinel], laidTests := true, laidLooks := .later }
def PrintAgainCardSaid : Prop := Claim7.holds Tryz.pinned (.plain (OpenSpec.ofChange printAgainSpec)) printAgainCard

/-- THE TIED CARD OF 'treadlelaw15.PrintLeast'. -/
def printLeastCard : Claim7 := { stood := { row := printLeastRow, standIns := [], harness := (true, "9adbe7fdbf3e09ebf5a108d252a5ae9329c70de8432a2babdf26d1d04a1b6ec9"), looks := true }, kinds := [], alts := [], laidByText := true, laidKinds := [.data, .data, .data, .sentinel, .sentinel], laidTests := true, laidLooks := .later }
def PrintLeastCardSaid : Prop := Claim7.holds Tryz.pinned (.plain (OpenSpec.ofChange printLeastSpec)) printLeastCard

/-- THE SECOND FORM's CARD OF 'treadlelaw15.PrintSames'. -/
def printSamesUptoCard : Claim7 := { stood := { row := printSamesUptoRow, standIns := [], harness := (true, "9adbe7fdbf3e09ebf5a108d252a5ae9329c70de8432a2babdf26d1d04a1b6ec9"), looks := true }, kinds := [], alts := [], laidByText := true, laidKinds := [.data, .data, .data, .sentinel, .sentinel], laidTests := true, laidLooks := .later }
def PrintSamesUptoCardSaid : Prop := Claim7.holds Tryz.pinned (.plain (OpenSpec.upto printSamesSpec)) printSamesUptoCard

/-- THE SECOND FORM's CARD OF 'treadlelaw15.PrintModules'. -/
def printModulesUptoCard : Claim7 := { stood := { row := printModulesUptoRow, standIns := [], harness := (true, "9adbe7fdbf3e09ebf5a108d252a5ae9329c70de8432a2babdf26d1d04a1b6ec9"), looks := true }, kinds := [], alts := [], laidByText := true, laidKinds := [.data, .data, .data, .sentinel, .sentinel], laidTests := true, laidLooks := .later }
def PrintModulesUptoCardSaid : Prop := Claim7.holds Tryz.pinned (.plain (OpenSpec.upto printModulesSpec)) printModulesUptoCard

/-- THE SECOND FORM's CARD OF 'treadlelaw15.PrintOwn'. -/
def printOwnUptoCard : Claim7 := { stood := { row := printOwnUptoRow, standIns := [], harness := (true, "9adbe7fdbf3e09ebf5a108d252a5ae9329c70de8432a2babdf26d1d04a1b6ec9"), looks := true }, kinds := [], alts := [], laidByText := true, laidKinds := [.data, .data, .data, .sentinel, .sentinel], laidTests := true, laidLooks := .later }
def PrintOwnUptoCardSaid : Prop := Claim7.holds Tryz.pinned (.plain (OpenSpec.upto printOwnSpec)) printOwnUptoCard

/-- THE SECOND FORM's CARD OF 'treadlelaw15.PrintExprs'. -/
def printExprsUptoCard : Claim7 := { stood := { row := printExprsUptoRow, standIns := [], harness := (true, "9adbe7fdbf3e09ebf5a108d252a5ae9329c70de8432a2babdf26d1d04a1b6ec9"), looks := true }, kinds := [], alts := [], laidByText := true, laidKinds := [.data, .data, .data, .sentinel, .sentinel], laidTests := true, laidLooks := .later }
def PrintExprsUptoCardSaid : Prop := Claim7.holds Tryz.pinned (.plain (OpenSpec.upto printExprsSpec)) printExprsUptoCard

/-- THE SECOND FORM's CARD OF 'treadlelaw15.PrintBack'. -/
def printBackUptoCard : Claim7 := { stood := { row := printBackUptoRow, standIns := [], harness := (true, "9adbe7fdbf3e09ebf5a108d252a5ae9329c70de8432a2babdf26d1d04a1b6ec9"), looks := true }, kinds := [], alts := [], laidByText := true, laidKinds := [.data, .data, .data, .sentinel, .sentinel], laidTests := true, laidLooks := .later }
def PrintBackUptoCardSaid : Prop := Claim7.holds Tryz.pinned (.plain (OpenSpec.upto printBackSpec)) printBackUptoCard

/-- THE SECOND FORM's CARD OF 'treadlelaw15.PrintFormats'. -/
def printFormatsUptoCard : Claim7 := { stood := { row := printFormatsUptoRow, standIns := [], harness := (true, "9adbe7fdbf3e09ebf5a108d252a5ae9329c70de8432a2babdf26d1d04a1b6ec9"), looks := true }, kinds := [], alts := [], laidByText := true, laidKinds := [.data, .data, .data, .sentinel, .sentinel], laidTests := true, laidLooks := .later }
def PrintFormatsUptoCardSaid : Prop := Claim7.holds Tryz.pinned (.plain (OpenSpec.upto printFormatsSpec)) printFormatsUptoCard

/-- THE SECOND FORM's CARD OF 'treadlelaw15.PrintAgain'. -/
def printAgainUptoCard : Claim7 := { stood := { row := printAgainUptoRow, standIns := [], harness := (true, "9adbe7fdbf3e09ebf5a108d252a5ae9329c70de8432a2babdf26d1d04a1b6ec9"), looks := true }, kinds := [], alts := [], laidByText := true, laidKinds := [.data, .data, .data, .sentinel, .sentinel], laidTests := true, laidLooks := .later }
def PrintAgainUptoCardSaid : Prop := Claim7.holds Tryz.pinned (.plain (OpenSpec.upto printAgainSpec)) printAgainUptoCard

/-- THE SECOND FORM's CARD OF 'treadlelaw15.PrintLeast'. -/
def printLeastUptoCard : Claim7 := { stood := { row := printLeastUptoRow, standIns := [], harness := (true, "9adbe7fdbf3e09ebf5a108d252a5ae9329c70de8432a2babdf26d1d04a1b6ec9"), looks := true }, kinds := [], alts := [], laidByText := true, laidKinds := [.data, .data, .data, .sentinel, .sentinel], laidTests := true, laidLooks := .later }
def PrintLeastUptoCardSaid : Prop := Claim7.holds Tryz.pinned (.plain (OpenSpec.upto printLeastSpec)) printLeastUptoCard
end Rows
end Go.Proofs.YtaddhpeainliiaaGreatDoor
