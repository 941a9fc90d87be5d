/-
  DERIVED. GIVEN WITH THE SEED: THE CARDS: each row of YtacfbgfphkfobaaDoorRows.lean that lists a variable, with what it lists TIED to the program's text (the seventh form; the later family's looks); each row that meets fmt, with fmt's text TOLD by the authors' own Lean function (tested against real Go, not proved from fmt's source: count such statements apart). THE CARD IS WHAT COUNTS. Prove the row's statement (the work); the ties are given (YtacfbgfphkfobaaDoorTie.lean); close each card by the builder's one call (the guide's Derived/Test/ToyasCard.lean, 'card_holds'). Laid BY PROGRAM, IN A SANDBOX (cutbox-door.mjs). By AI agents, Wed Nov 11 2026. No macro, syntax, notation, axiom, sorry.
-/
import Derived.Test.YtacfbgfphkfobaaDoorRows
import GoSem.ClaimSeven
namespace Go.Proofs.YtacfbgfphkfobaaDoor
namespace Rows

/-- THE TIED CARD OF 'treadlelaw14.ParseFirst'. -/
def parseFirstCard : Claim7 := { stood := { row := parseFirstRow, standIns := [], harness := (true, "a65fddc96483628751dfbbb0d981d0054a650ae40365a50bcba3809969628590"), looks := true }, kinds := [], alts := [], laidByText := true, laidKinds := [.data, .data, .data, .sentinel, .sentinel], laidTests := true, laidLooks := .later }
def ParseFirstCardSaid : Prop := Claim7.holds Tryd.pinned (.plain (OpenSpec.ofChange parseFirstSpec)) parseFirstCard

/-- THE TIED CARD OF 'treadlelaw14.ParseLeft'. -/
def parseLeftCard : Claim7 := { stood := { row := parseLeftRow, standIns := [], harness := (true, "a65fddc96483628751dfbbb0d981d0054a650ae40365a50bcba3809969628590"), looks := true }, kinds := [], alts := [], laidByText := true, laidKinds := [.data, .data, .data, .sentinel, .sentinel], laidTests := true, laidLooks := .later }
def ParseLeftCardSaid : Prop := Claim7.holds Tryd.pinned (.plain (OpenSpec.ofChange parseLeftSpec)) parseLeftCard

/-- THE TIED CARD OF 'treadlelaw14.ParseRightExprs'. -/
def parseRightExprsCard : Claim7 := { stood := { row := parseRightExprsRow, standIns := [], harness := (true, "a65fddc96483628751dfbbb0d981d0054a650ae40365a50bcba3809969628590"), looks := true }, kinds := [], alts := [], laidByText := true, laidKinds := [.data, .data, .data, .sentinel, .sentinel], laidTests := true, laidLooks := .later }
def ParseRightExprsCardSaid : Prop := Claim7.holds Tryd.pinned (.plain (OpenSpec.ofChange parseRightExprsSpec)) parseRightExprsCard

/-- THE TIED CARD OF 'treadlelaw14.ParseNests'. -/
def parseNestsCard : Claim7 := { stood := { row := parseNestsRow, standIns := [], harness := (true, "a65fddc96483628751dfbbb0d981d0054a650ae40365a50bcba3809969628590"), looks := true }, kinds := [], alts := [], laidByText := true, laidKinds := [.data, .data, .data, .sentinel, .sentinel], laidTests := true, laidLooks := .later }
def ParseNestsCardSaid : Prop := Claim7.holds Tryd.pinned (.plain (OpenSpec.ofChange parseNestsSpec)) parseNestsCard

/-- THE TIED CARD OF 'treadlelaw14.ParseGoes'. -/
def parseGoesCard : Claim7 := { stood := { row := parseGoesRow, standIns := [], harness := (true, "a65fddc96483628751dfbbb0d981d0054a650ae40365a50bcba3809969628590"), looks := true }, kinds := [], alts := [], laidByText := true, laidKinds := [.data, .data, .data, .sentinel, .sentinel], laidTests := true, laidLooks := .later }
def ParseGoesCardSaid : Prop := Claim7.holds Tryd.pinned (.plain (OpenSpec.ofChange parseGoesSpec)) parseGoesCard

/-- THE SECOND FORM's CARD OF 'treadlelaw14.ParseFirst'. -/
def parseFirstUptoCard : Claim7 := { stood := { row := parseFirstUptoRow, standIns := [], harness := (true, "a65fddc96483628751dfbbb0d981d0054a650ae40365a50bcba3809969628590"), looks := true }, kinds := [], alts := [], laidByText := true, laidKinds := [.data, .data, .data, .sentinel, .sentinel], laidTests := true, laidLooks := .later }
def ParseFirstUptoCardSaid : Prop := Claim7.holds Tryd.pinned (.plain (OpenSpec.upto parseFirstSpec)) parseFirstUptoCard

/-- THE SECOND FORM's CARD OF 'treadlelaw14.ParseLeft'. -/
def parseLeftUptoCard : Claim7 := { stood := { row := parseLeftUptoRow, standIns := [], harness := (true, "a65fddc96483628751dfbbb0d981d0054a650ae40365a50bcba3809969628590"), looks := true }, kinds := [], alts := [], laidByText := true, laidKinds := [.data, .data, .data, .sentinel, .sentinel], laidTests := true, laidLooks := .later }
def ParseLeftUptoCardSaid : Prop := Claim7.holds Tryd.pinned (.plain (OpenSpec.upto parseLeftSpec)) parseLeftUptoCard

/-- THE SECOND FORM's CARD OF 'treadlelaw14.ParseRightExprs'. -/
def parseRightExprsUptoCard : Claim7 := { stood := { row := parseRightExprsUptoRow, standIns := [], harness := (true, "a65fddc96483628751dfbbb0d981d0054a650ae40365a50bcba3809969628590"), looks := true }, kinds := [], alts := [], laidByText := true, laidKinds := [.data, .data, .data, .sentinel, .sentinel], laidTests := true, laidLooks := .later }
def ParseRightExprsUptoCardSaid : Prop := Claim7.holds Tryd.pinned (.plain (OpenSpec.upto parseRightExprsSpec)) parseRightExprsUptoCard

/-- THE SECOND FORM's CARD OF 'treadlelaw14.ParseNests'. -/
def parseNestsUptoCard : Claim7 := { stood := { row := parseNestsUptoRow, standIns := [], harness := (true, "a65fddc96483628751dfbbb0d981d0054a650ae40365a50bcba3809969628590"), looks := true }, kinds := [], alts := [], laidByText := true, laidKinds := [.data, .data, .data, .sentinel, .sentinel], laidTests := true, laidLooks := .later }
def ParseNestsUptoCardSaid : Prop := Claim7.holds Tryd.pinned (.plain (OpenSpec.upto parseNestsSpec)) parseNestsUptoCard

/-- THE SECOND FORM's CARD OF 'treadlelaw14.ParseGoes'. -/
def parseGoesUptoCard : Claim7 := { stood := { row := parseGoesUptoRow, standIns := [], harness := (true, "a65fddc96483628751dfbbb0d981d0054a650ae40365a50bcba3809969628590"), looks := true }, kinds := [], alts := [], laidByText := true, laidKinds := [.data, .data, .data, .sentinel, .sentinel], laidTests := true, laidLooks := .later }
def ParseGoesUptoCardSaid : Prop := Claim7.holds Tryd.pinned (.plain (OpenSpec.upto parseGoesSpec)) parseGoesUptoCard
end Rows
end Go.Proofs.YtacfbgfphkfobaaDoor
