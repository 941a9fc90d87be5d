/-
  DERIVED. GIVEN WITH THE SEED: THE CARDS: each row of YtaolgiojjeopkaaDoorRows.lean that lists a variable, with what it lists TIED to the program's text (the seventh form; the later family's looks); each row that meets fmt, with fmt's text TOLD by the authors' own Lean function (tested against real Go, not proved from fmt's source: count such statements apart). THE CARD IS WHAT COUNTS. Prove the row's statement (the work); the ties are given (YtaolgiojjeopkaaDoorTie.lean); close each card by the builder's one call (the guide's Derived/Test/ToyasCard.lean, 'card_holds'). Laid BY PROGRAM, IN A SANDBOX (cutbox-door.mjs). By AI agents, Wed Nov 11 2026. No macro, syntax, notation, axiom, sorry.
-/
import Derived.Test.YtaolgiojjeopkaaDoorRows
import GoSem.ClaimSeven
namespace Go.Proofs.YtaolgiojjeopkaaDoor
namespace Rows

/-- THE TIED CARD OF 'treadlelaw04.PathOf'. -/
def pathOfCard : Claim7 := { stood := { row := pathOfRow, standIns := [], harness := (true, "2e069a8530919d269218ee7c6154e1e70d16e283c97389f85bfc3324e8168588"), looks := false }, kinds := [], alts := [], laidByText := true, laidKinds := [.data, .pinned], laidTests := true, laidLooks := .later }
def PathOfCardSaid : Prop := Claim7.holds Tryd.pinned (.plain (OpenSpec.ofChange pathOfSpec)) pathOfCard

/-- THE TIED CARD OF 'treadlelaw04.PathJoins'. -/
def pathJoinsCard : Claim7 := { stood := { row := pathJoinsRow, standIns := [], harness := (true, "2e069a8530919d269218ee7c6154e1e70d16e283c97389f85bfc3324e8168588"), looks := false }, kinds := [], alts := [], laidByText := true, laidKinds := [.data, .pinned], laidTests := true, laidLooks := .later }
def PathJoinsCardSaid : Prop := Claim7.holds Tryd.pinned (.plain (OpenSpec.ofChange pathJoinsSpec)) pathJoinsCard

/-- THE TIED CARD OF 'treadlelaw04.PathParts'. -/
def pathPartsCard : Claim7 := { stood := { row := pathPartsRow, standIns := [], harness := (true, "2e069a8530919d269218ee7c6154e1e70d16e283c97389f85bfc3324e8168588"), looks := false }, kinds := [], alts := [], laidByText := true, laidKinds := [.data, .pinned], laidTests := true, laidLooks := .later }
def PathPartsCardSaid : Prop := Claim7.holds Tryd.pinned (.plain (OpenSpec.ofChange pathPartsSpec)) pathPartsCard

/-- THE TIED CARD OF 'treadlelaw04.PathOwn'. -/
def pathOwnCard : Claim7 := { stood := { row := pathOwnRow, standIns := [], harness := (true, "2e069a8530919d269218ee7c6154e1e70d16e283c97389f85bfc3324e8168588"), looks := false }, kinds := [], alts := [], laidByText := true, laidKinds := [.data, .pinned], laidTests := true, laidLooks := .later }
def PathOwnCardSaid : Prop := Claim7.holds Tryd.pinned (.plain (OpenSpec.ofChange pathOwnSpec)) pathOwnCard

/-- THE TIED CARD OF 'treadlelaw04.PathNames'. -/
def pathNamesCard : Claim7 := { stood := { row := pathNamesRow, standIns := [], harness := (true, "2e069a8530919d269218ee7c6154e1e70d16e283c97389f85bfc3324e8168588"), looks := false }, kinds := [], alts := [], laidByText := true, laidKinds := [.data, .pinned], laidTests := true, laidLooks := .later }
def PathNamesCardSaid : Prop := Claim7.holds Tryd.pinned (.plain (OpenSpec.ofChange pathNamesSpec)) pathNamesCard

/-- THE TIED CARD OF 'treadlelaw04.PathCommons'. -/
def pathCommonsCard : Claim7 := { stood := { row := pathCommonsRow, standIns := [], harness := (true, "2e069a8530919d269218ee7c6154e1e70d16e283c97389f85bfc3324e8168588"), looks := false }, kinds := [], alts := [], laidByText := true, laidKinds := [.data, .pinned], laidTests := true, laidLooks := .later }
def PathCommonsCardSaid : Prop := Claim7.holds Tryd.pinned (.plain (OpenSpec.ofChange pathCommonsSpec)) pathCommonsCard

/-- THE TIED CARD OF 'treadlelaw04.PathCleans'. -/
def pathCleansCard : Claim7 := { stood := { row := pathCleansRow, standIns := [], harness := (true, "2e069a8530919d269218ee7c6154e1e70d16e283c97389f85bfc3324e8168588"), looks := false }, kinds := [], alts := [], laidByText := true, laidKinds := [.data, .pinned], laidTests := true, laidLooks := .later }
def PathCleansCardSaid : Prop := Claim7.holds Tryd.pinned (.plain (OpenSpec.ofChange pathCleansSpec)) pathCleansCard

/-- THE TIED CARD OF 'treadlelaw04.PathInside'. -/
def pathInsideCard : Claim7 := { stood := { row := pathInsideRow, standIns := [], harness := (true, "2e069a8530919d269218ee7c6154e1e70d16e283c97389f85bfc3324e8168588"), looks := false }, kinds := [], alts := [], laidByText := true, laidKinds := [.data, .pinned], laidTests := true, laidLooks := .later }
def PathInsideCardSaid : Prop := Claim7.holds Tryd.pinned (.plain (OpenSpec.ofChange pathInsideSpec)) pathInsideCard

/-- THE TIED CARD OF 'treadlelaw04.PathBack'. -/
def pathBackCard : Claim7 := { stood := { row := pathBackRow, standIns := [], harness := (true, "2e069a8530919d269218ee7c6154e1e70d16e283c97389f85bfc3324e8168588"), looks := false }, kinds := [], alts := [], laidByText := true, laidKinds := [.data, .pinned], laidTests := true, laidLooks := .later }
def PathBackCardSaid : Prop := Claim7.holds Tryd.pinned (.plain (OpenSpec.ofChange pathBackSpec)) pathBackCard

/-- THE TIED CARD OF 'treadlelaw04.PathSplits'. -/
def pathSplitsCard : Claim7 := { stood := { row := pathSplitsRow, standIns := [], harness := (true, "2e069a8530919d269218ee7c6154e1e70d16e283c97389f85bfc3324e8168588"), looks := false }, kinds := [], alts := [], laidByText := true, laidKinds := [.data, .pinned], laidTests := true, laidLooks := .later }
def PathSplitsCardSaid : Prop := Claim7.holds Tryd.pinned (.plain (OpenSpec.ofChange pathSplitsSpec)) pathSplitsCard

/-- THE TIED CARD OF 'treadlelaw04.PathOrder'. -/
def pathOrderCard : Claim7 := { stood := { row := pathOrderRow, standIns := [], harness := (true, "2e069a8530919d269218ee7c6154e1e70d16e283c97389f85bfc3324e8168588"), looks := false }, kinds := [], alts := [], laidByText := true, laidKinds := [.data, .pinned], laidTests := true, laidLooks := .later }
def PathOrderCardSaid : Prop := Claim7.holds Tryd.pinned (.plain (OpenSpec.ofChange pathOrderSpec)) pathOrderCard

/-- THE TIED CARD OF 'treadlelaw04.PathPairs'. -/
def pathPairsCard : Claim7 := { stood := { row := pathPairsRow, standIns := [], harness := (true, "2e069a8530919d269218ee7c6154e1e70d16e283c97389f85bfc3324e8168588"), looks := false }, kinds := [], alts := [], laidByText := true, laidKinds := [.data, .pinned], laidTests := true, laidLooks := .later }
def PathPairsCardSaid : Prop := Claim7.holds Tryd.pinned (.plain (OpenSpec.ofChange pathPairsSpec)) pathPairsCard

/-- THE SECOND FORM's CARD OF 'treadlelaw04.PathOf'. -/
def pathOfUptoCard : Claim7 := { stood := { row := pathOfUptoRow, standIns := [], harness := (true, "2e069a8530919d269218ee7c6154e1e70d16e283c97389f85bfc3324e8168588"), looks := false }, kinds := [], alts := [], laidByText := true, laidKinds := [.data, .pinned], laidTests := true, laidLooks := .later }
def PathOfUptoCardSaid : Prop := Claim7.holds Tryd.pinned (.plain (OpenSpec.upto pathOfSpec)) pathOfUptoCard

/-- THE SECOND FORM's CARD OF 'treadlelaw04.PathJoins'. -/
def pathJoinsUptoCard : Claim7 := { stood := { row := pathJoinsUptoRow, standIns := [], harness := (true, "2e069a8530919d269218ee7c6154e1e70d16e283c97389f85bfc3324e8168588"), looks := false }, kinds := [], alts := [], laidByText := true, laidKinds := [.data, .pinned], laidTests := true, laidLooks := .later }
def PathJoinsUptoCardSaid : Prop := Claim7.holds Tryd.pinned (.plain (OpenSpec.upto pathJoinsSpec)) pathJoinsUptoCard

/-- THE SECOND FORM's CARD OF 'treadlelaw04.PathParts'. -/
def pathPartsUptoCard : Claim7 := { stood := { row := pathPartsUptoRow, standIns := [], harness := (true, "2e069a8530919d269218ee7c6154e1e70d16e283c97389f85bfc3324e8168588"), looks := false }, kinds := [], alts := [], laidByText := true, laidKinds := [.data, .pinned], laidTests := true, laidLooks := .later }
def PathPartsUptoCardSaid : Prop := Claim7.holds Tryd.pinned (.plain (OpenSpec.upto pathPartsSpec)) pathPartsUptoCard

/-- THE SECOND FORM's CARD OF 'treadlelaw04.PathOwn'. -/
def pathOwnUptoCard : Claim7 := { stood := { row := pathOwnUptoRow, standIns := [], harness := (true, "2e069a8530919d269218ee7c6154e1e70d16e283c97389f85bfc3324e8168588"), looks := false }, kinds := [], alts := [], laidByText := true, laidKinds := [.data, .pinned], laidTests := true, laidLooks := .later }
def PathOwnUptoCardSaid : Prop := Claim7.holds Tryd.pinned (.plain (OpenSpec.upto pathOwnSpec)) pathOwnUptoCard

/-- THE SECOND FORM's CARD OF 'treadlelaw04.PathNames'. -/
def pathNamesUptoCard : Claim7 := { stood := { row := pathNamesUptoRow, standIns := [], harness := (true, "2e069a8530919d269218ee7c6154e1e70d16e283c97389f85bfc3324e8168588"), looks := false }, kinds := [], alts := [], laidByText := true, laidKinds := [.data, .pinned], laidTests := true, laidLooks := .later }
def PathNamesUptoCardSaid : Prop := Claim7.holds Tryd.pinned (.plain (OpenSpec.upto pathNamesSpec)) pathNamesUptoCard

/-- THE SECOND FORM's CARD OF 'treadlelaw04.PathCommons'. -/
def pathCommonsUptoCard : Claim7 := { stood := { row := pathCommonsUptoRow, standIns := [], harness := (true, "2e069a8530919d269218ee7c6154e1e70d16e283c97389f85bfc3324e8168588"), looks := false }, kinds := [], alts := [], laidByText := true, laidKinds := [.data, .pinned], laidTests := true, laidLooks := .later }
def PathCommonsUptoCardSaid : Prop := Claim7.holds Tryd.pinned (.plain (OpenSpec.upto pathCommonsSpec)) pathCommonsUptoCard

/-- THE SECOND FORM's CARD OF 'treadlelaw04.PathCleans'. -/
def pathCleansUptoCard : Claim7 := { stood := { row := pathCleansUptoRow, standIns := [], harness := (true, "2e069a8530919d269218ee7c6154e1e70d16e283c97389f85bfc3324e8168588"), looks := false }, kinds := [], alts := [], laidByText := true, laidKinds := [.data, .pinned], laidTests := true, laidLooks := .later }
def PathCleansUptoCardSaid : Prop := Claim7.holds Tryd.pinned (.plain (OpenSpec.upto pathCleansSpec)) pathCleansUptoCard

/-- THE SECOND FORM's CARD OF 'treadlelaw04.PathInside'. -/
def pathInsideUptoCard : Claim7 := { stood := { row := pathInsideUptoRow, standIns := [], harness := (true, "2e069a8530919d269218ee7c6154e1e70d16e283c97389f85bfc3324e8168588"), looks := false }, kinds := [], alts := [], laidByText := true, laidKinds := [.data, .pinned], laidTests := true, laidLooks := .later }
def PathInsideUptoCardSaid : Prop := Claim7.holds Tryd.pinned (.plain (OpenSpec.upto pathInsideSpec)) pathInsideUptoCard

/-- THE SECOND FORM's CARD OF 'treadlelaw04.PathBack'. -/
def pathBackUptoCard : Claim7 := { stood := { row := pathBackUptoRow, standIns := [], harness := (true, "2e069a8530919d269218ee7c6154e1e70d16e283c97389f85bfc3324e8168588"), looks := false }, kinds := [], alts := [], laidByText := true, laidKinds := [.data, .pinned], laidTests := true, laidLooks := .later }
def PathBackUptoCardSaid : Prop := Claim7.holds Tryd.pinned (.plain (OpenSpec.upto pathBackSpec)) pathBackUptoCard

/-- THE SECOND FORM's CARD OF 'treadlelaw04.PathSplits'. -/
def pathSplitsUptoCard : Claim7 := { stood := { row := pathSplitsUptoRow, standIns := [], harness := (true, "2e069a8530919d269218ee7c6154e1e70d16e283c97389f85bfc3324e8168588"), looks := false }, kinds := [], alts := [], laidByText := true, laidKinds := [.data, .pinned], laidTests := true, laidLooks := .later }
def PathSplitsUptoCardSaid : Prop := Claim7.holds Tryd.pinned (.plain (OpenSpec.upto pathSplitsSpec)) pathSplitsUptoCard

/-- THE SECOND FORM's CARD OF 'treadlelaw04.PathOrder'. -/
def pathOrderUptoCard : Claim7 := { stood := { row := pathOrderUptoRow, standIns := [], harness := (true, "2e069a8530919d269218ee7c6154e1e70d16e283c97389f85bfc3324e8168588"), looks := false }, kinds := [], alts := [], laidByText := true, laidKinds := [.data, .pinned], laidTests := true, laidLooks := .later }
def PathOrderUptoCardSaid : Prop := Claim7.holds Tryd.pinned (.plain (OpenSpec.upto pathOrderSpec)) pathOrderUptoCard

/-- THE SECOND FORM's CARD OF 'treadlelaw04.PathPairs'. -/
def pathPairsUptoCard : Claim7 := { stood := { row := pathPairsUptoRow, standIns := [], harness := (true, "2e069a8530919d269218ee7c6154e1e70d16e283c97389f85bfc3324e8168588"), looks := false }, kinds := [], alts := [], laidByText := true, laidKinds := [.data, .pinned], laidTests := true, laidLooks := .later }
def PathPairsUptoCardSaid : Prop := Claim7.holds Tryd.pinned (.plain (OpenSpec.upto pathPairsSpec)) pathPairsUptoCard
end Rows
end Go.Proofs.YtaolgiojjeopkaaDoor
