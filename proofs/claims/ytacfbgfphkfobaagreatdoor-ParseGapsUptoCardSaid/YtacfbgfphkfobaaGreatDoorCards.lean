/-
  DERIVED. GIVEN WITH THE SEED: THE CARDS: each row of YtacfbgfphkfobaaGreatDoorRows.lean that lists a variable, with what it lists TIED to the program's text (the seventh form; the later family's looks); each row that meets fmt, with fmt's text TOLD by the authors' own Lean function (tested against real Go, not proved from fmt's source: count such statements apart). THE CARD IS WHAT COUNTS. Prove the row's statement (the work); the ties are given (YtacfbgfphkfobaaGreatDoorTie.lean); close each card by the builder's one call (the guide's Derived/Test/ToyasCard.lean, 'card_holds'). Laid BY PROGRAM, IN A SANDBOX (cutbox-door.mjs). By AI agents, Wed Nov 11 2026. No macro, syntax, notation, axiom, sorry.
-/
import Derived.Test.YtacfbgfphkfobaaGreatDoorRows
import GoSem.ClaimSeven
namespace Go.Proofs.YtacfbgfphkfobaaGreatDoor
namespace Rows

/-- THE TIED CARD OF 'treadlelaw14.ParseModules'. -/
def parseModulesCard : Claim7 := { stood := { row := parseModulesRow, standIns := [], harness := (true, "75ea992d5978532546414765f2e5db0e842576efdfe0dc99daa4b691b93a2628"), looks := true }, kinds := [], alts := [], laidByText := true, laidKinds := [.data, .data, .data, .sentinel, .sentinel], laidTests := true, laidLooks := .later }
def ParseModulesCardSaid : Prop := Claim7.holds Tryz.pinned (.plain (OpenSpec.ofChange parseModulesSpec)) parseModulesCard

/-- THE TIED CARD OF 'treadlelaw14.ParseOwn'. -/
def parseOwnCard : Claim7 := { stood := { row := parseOwnRow, standIns := [], harness := (true, "75ea992d5978532546414765f2e5db0e842576efdfe0dc99daa4b691b93a2628"), looks := true }, kinds := [], alts := [], laidByText := true, laidKinds := [.data, .data, .data, .sentinel, .sentinel], laidTests := true, laidLooks := .later }
def ParseOwnCardSaid : Prop := Claim7.holds Tryz.pinned (.plain (OpenSpec.ofChange parseOwnSpec)) parseOwnCard

/-- THE TIED CARD OF 'treadlelaw14.ParseExprs'. -/
def parseExprsCard : Claim7 := { stood := { row := parseExprsRow, standIns := [], harness := (true, "75ea992d5978532546414765f2e5db0e842576efdfe0dc99daa4b691b93a2628"), looks := true }, kinds := [], alts := [], laidByText := true, laidKinds := [.data, .data, .data, .sentinel, .sentinel], laidTests := true, laidLooks := .later }
def ParseExprsCardSaid : Prop := Claim7.holds Tryz.pinned (.plain (OpenSpec.ofChange parseExprsSpec)) parseExprsCard

/-- THE TIED CARD OF 'treadlelaw14.ParseFuels'. -/
def parseFuelsCard : Claim7 := { stood := { row := parseFuelsRow, standIns := [], harness := (true, "75ea992d5978532546414765f2e5db0e842576efdfe0dc99daa4b691b93a2628"), looks := true }, kinds := [], alts := [], laidByText := true, laidKinds := [.data, .data, .data, .sentinel, .sentinel], laidTests := true, laidLooks := .later }
def ParseFuelsCardSaid : Prop := Claim7.holds Tryz.pinned (.plain (OpenSpec.ofChange parseFuelsSpec)) parseFuelsCard

/-- THE TIED CARD OF 'treadlelaw14.ParseSpends'. -/
def parseSpendsCard : Claim7 := { stood := { row := parseSpendsRow, standIns := [], harness := (true, "75ea992d5978532546414765f2e5db0e842576efdfe0dc99daa4b691b93a2628"), looks := true }, kinds := [], alts := [], laidByText := true, laidKinds := [.data, .data, .data, .sentinel, .sentinel], laidTests := true, laidLooks := .later }
def ParseSpendsCardSaid : Prop := Claim7.holds Tryz.pinned (.plain (OpenSpec.ofChange parseSpendsSpec)) parseSpendsCard

/-- THE TIED CARD OF 'treadlelaw14.ParseGaps'. -/
def parseGapsCard : Claim7 := { stood := { row := parseGapsRow, standIns := [], harness := (true, "75ea992d5978532546414765f2e5db0e842576efdfe0dc99daa4b691b93a2628"), looks := true }, kinds := [], alts := [], laidByText := true, laidKinds := [.data, .data, .data, .sentinel, .sentinel], laidTests := true, laidLooks := .later }
def ParseGapsCardSaid : Prop := Claim7.holds Tryz.pinned (.plain (OpenSpec.ofChange parseGapsSpec)) parseGapsCard

/-- THE TIED CARD OF 'treadlelaw14.ParseFits'. -/
def parseFitsCard : Claim7 := { stood := { row := parseFitsRow, standIns := [], harness := (true, "75ea992d5978532546414765f2e5db0e842576efdfe0dc99daa4b691b93a2628"), looks := true }, kinds := [], alts := [], laidByText := true, laidKinds := [.data, .data, .data, .sentinel, .sentinel], laidTests := true, laidLooks := .later }
def ParseFitsCardSaid : Prop := Claim7.holds Tryz.pinned (.plain (OpenSpec.ofChange parseFitsSpec)) parseFitsCard

/-- THE TIED CARD OF 'treadlelaw14.ParseRights'. -/
def parseRightsCard : Claim7 := { stood := { row := parseRightsRow, standIns := [], harness := (true, "75ea992d5978532546414765f2e5db0e842576efdfe0dc99daa4b691b93a2628"), looks := true }, kinds := [], alts := [], laidByText := true, laidKinds := [.data, .data, .data, .sentinel, .sentinel], laidTests := true, laidLooks := .later }
def ParseRightsCardSaid : Prop := Claim7.holds Tryz.pinned (.plain (OpenSpec.ofChange parseRightsSpec)) parseRightsCard

/-- THE SECOND FORM's CARD OF 'treadlelaw14.ParseModules'. -/
def parseModulesUptoCard : Claim7 := { stood := { row := parseModulesUptoRow, standIns := [], harness := (true, "75ea992d5978532546414765f2e5db0e842576efdfe0dc99daa4b691b93a2628"), looks := true }, kinds := [], alts := [], laidByText := true, laidKinds := [.data, .data, .data, .sentinel, .sentinel], laidTests := true, laidLooks := .later }
def ParseModulesUptoCardSaid : Prop := Claim7.holds Tryz.pinned (.plain (OpenSpec.upto parseModulesSpec)) parseModulesUptoCard

/-- THE SECOND FORM's CARD OF 'treadlelaw14.ParseOwn'. -/
def parseOwnUptoCard : Claim7 := { stood := { row := parseOwnUptoRow, standIns := [], harness := (true, "75ea992d5978532546414765f2e5db0e842576efdfe0dc99daa4b691b93a2628"), looks := true }, kinds := [], alts := [], laidByText := true, laidKinds := [.data, .data, .data, .sentinel, .sentinel], laidTests := true, laidLooks := .later }
def ParseOwnUptoCardSaid : Prop := Claim7.holds Tryz.pinned (.plain (OpenSpec.upto parseOwnSpec)) parseOwnUptoCard

/-- THE SECOND FORM's CARD OF 'treadlelaw14.ParseExprs'. -/
def parseExprsUptoCard : Claim7 := { stood := { row := parseExprsUptoRow, standIns := [], harness := (true, "75ea992d5978532546414765f2e5db0e842576efdfe0dc99daa4b691b93a2628"), looks := true }, kinds := [], alts := [], laidByText := true, laidKinds := [.data, .data, .data, .sentinel, .sentinel], laidTests := true, laidLooks := .later }
def ParseExprsUptoCardSaid : Prop := Claim7.holds Tryz.pinned (.plain (OpenSpec.upto parseExprsSpec)) parseExprsUptoCard

/-- THE SECOND FORM's CARD OF 'treadlelaw14.ParseFuels'. -/
def parseFuelsUptoCard : Claim7 := { stood := { row := parseFuelsUptoRow, standIns := [], harness := (true, "75ea992d5978532546414765f2e5db0e842576efdfe0dc99daa4b691b93a2628"), looks := true }, kinds := [], alts := [], laidByText := true, laidKinds := [.data, .data, .data, .sentinel, .sentinel], laidTests := true, laidLooks := .later }
def ParseFuelsUptoCardSaid : Prop := Claim7.holds Tryz.pinned (.plain (OpenSpec.upto parseFuelsSpec)) parseFuelsUptoCard

/-- THE SECOND FORM's CARD OF 'treadlelaw14.ParseSpends'. -/
def parseSpendsUptoCard : Claim7 := { stood := { row := parseSpendsUptoRow, standIns := [], harness := (true, "75ea992d5978532546414765f2e5db0e842576efdfe0dc99daa4b691b93a2628"), looks := true }, kinds := [], alts := [], laidByText := true, laidKinds := [.data, .data, .data, .sentinel, .sentinel], laidTests := true, laidLooks := .later }
def ParseSpendsUptoCardSaid : Prop := Claim7.holds Tryz.pinned (.plain (OpenSpec.upto parseSpendsSpec)) parseSpendsUptoCard

/-- THE SECOND FORM's CARD OF 'treadlelaw14.ParseGaps'. -/
def parseGapsUptoCard : Claim7 := { stood := { row := parseGapsUptoRow, standIns := [], harness := (true, "75ea992d5978532546414765f2e5db0e842576efdfe0dc99daa4b691b93a2628"), looks := true }, kinds := [], alts := [], laidByText := true, laidKinds := [.data, .data, .data, .sentinel, .sentinel], laidTests := true, laidLooks := .later }
def ParseGapsUptoCardSaid : Prop := Claim7.holds Tryz.pinned (.plain (OpenSpec.upto parseGapsSpec)) parseGapsUptoCard

/-- THE SECOND FORM's CARD OF 'treadlelaw14.ParseFits'. -/
def parseFitsUptoCard : Claim7 := { stood := { row := parseFitsUptoRow, standIns := [], harness := (true, "75ea992d5978532546414765f2e5db0e842576efdfe0dc99daa4b691b93a2628"), looks := true }, kinds := [], alts := [], laidByText := true, laidKinds := [.data, .data, .data, .sentinel, .sentinel], laidTests := true, laidLooks := .later }
def ParseFitsUptoCardSaid : Prop := Claim7.holds Tryz.pinned (.plain (OpenSpec.upto parseFitsSpec)) parseFitsUptoCard

/-- THE SECOND FORM's CARD OF 'treadlelaw14.ParseRights'. -/
def parseRightsUptoCard : Claim7 := { stood := { row := parseRightsUptoRow, standIns := [], harness := (true, "75ea992d5978532546414765f2e5db0e842576efdfe0dc99daa4b691b93a2628"), looks := true }, kinds := [], alts := [], laidByText := true, laidKinds := [.data, .data, .data, .sentinel, .sentinel], laidTests := true, laidLooks := .later }
def ParseRightsUptoCardSaid : Prop := Claim7.holds Tryz.pinned (.plain (OpenSpec.upto parseRightsSpec)) parseRightsUptoCard
end Rows
end Go.Proofs.YtacfbgfphkfobaaGreatDoor
