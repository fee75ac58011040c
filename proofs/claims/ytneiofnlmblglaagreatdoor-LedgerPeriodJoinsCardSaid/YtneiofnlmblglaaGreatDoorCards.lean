/-
  DERIVED. GIVEN WITH THE SEED: THE CARDS: each row of YtneiofnlmblglaaGreatDoorRows.lean that lists a variable, with what it lists TIED to the program's text (the seventh form; the later family's looks); each row that meets fmt, with fmt's text TOLD by the authors' own Lean function (tested against real Go, not proved from fmt's source: count such statements apart). THE CARD IS WHAT COUNTS. Prove the row's statement (the work); the ties are given (YtneiofnlmblglaaGreatDoorTie.lean); close each card by the builder's one call (the guide's Derived/Test/ToyasCard.lean, 'card_holds'). Laid BY PROGRAM, IN A SANDBOX (cutbox-door.mjs). By AI agents, Wed Nov 11 2026. No macro, syntax, notation, axiom, sorry.
-/
import Derived.Test.YtneiofnlmblglaaGreatDoorRows
import GoSem.ClaimSeven
namespace Go.Proofs.YtneiofnlmblglaaGreatDoor
namespace Rows

/-- THE TIED CARD OF 'bullalaw08.LedgerPeriodChecks'. -/
def ledgerPeriodChecksCard : Claim7 := { stood := { row := ledgerPeriodChecksRow, standIns := [], harness := (true, "ef333a2032a4ac1e563a5015b0720cd2a9a5a9e2c9ba2ec55ffbaf3dac49514a"), looks := false }, kinds := [], alts := [], laidByText := true, laidKinds := [.data], laidTests := true, laidLooks := .later }
def LedgerPeriodChecksCardSaid : Prop := Claim7.holds Tryz.pinned (.plain (OpenSpec.ofChange ledgerPeriodChecksSpec)) ledgerPeriodChecksCard

/-- THE TIED CARD OF 'bullalaw08.LedgerPeriodCarries'. -/
def ledgerPeriodCarriesCard : Claim7 := { stood := { row := ledgerPeriodCarriesRow, standIns := [], harness := (true, "ef333a2032a4ac1e563a5015b0720cd2a9a5a9e2c9ba2ec55ffbaf3dac49514a"), looks := false }, kinds := [], alts := [], laidByText := true, laidKinds := [.data], laidTests := true, laidLooks := .later }
def LedgerPeriodCarriesCardSaid : Prop := Claim7.holds Tryz.pinned (.plain (OpenSpec.ofChange ledgerPeriodCarriesSpec)) ledgerPeriodCarriesCard

/-- THE TIED CARD OF 'bullalaw08.LedgerRationsGiven'. -/
def ledgerRationsGivenCard : Claim7 := { stood := { row := ledgerRationsGivenRow, standIns := [], harness := (true, "ef333a2032a4ac1e563a5015b0720cd2a9a5a9e2c9ba2ec55ffbaf3dac49514a"), looks := false }, kinds := [], alts := [], laidByText := true, laidKinds := [.data], laidTests := true, laidLooks := .later }
def LedgerRationsGivenCardSaid : Prop := Claim7.holds Tryz.pinned (.plain (OpenSpec.ofChange ledgerRationsGivenSpec)) ledgerRationsGivenCard

/-- THE TIED CARD OF 'bullalaw08.LedgerPeriodDivides'. -/
def ledgerPeriodDividesCard : Claim7 := { stood := { row := ledgerPeriodDividesRow, standIns := [], harness := (true, "ef333a2032a4ac1e563a5015b0720cd2a9a5a9e2c9ba2ec55ffbaf3dac49514a"), looks := false }, kinds := [], alts := [], laidByText := true, laidKinds := [.data], laidTests := true, laidLooks := .later }
def LedgerPeriodDividesCardSaid : Prop := Claim7.holds Tryz.pinned (.plain (OpenSpec.ofChange ledgerPeriodDividesSpec)) ledgerPeriodDividesCard

/-- THE TIED CARD OF 'bullalaw08.LedgerPeriodJoins'. -/
def ledgerPeriodJoinsCard : Claim7 := { stood := { row := ledgerPeriodJoinsRow, standIns := [], harness := (true, "ef333a2032a4ac1e563a5015b0720cd2a9a5a9e2c9ba2ec55ffbaf3dac49514a"), looks := false }, kinds := [], alts := [], laidByText := true, laidKinds := [.data], laidTests := true, laidLooks := .later }
def LedgerPeriodJoinsCardSaid : Prop := Claim7.holds Tryz.pinned (.plain (OpenSpec.ofChange ledgerPeriodJoinsSpec)) ledgerPeriodJoinsCard

/-- THE SECOND FORM's CARD OF 'bullalaw08.LedgerPeriodChecks'. -/
def ledgerPeriodChecksUptoCard : Claim7 := { stood := { row := ledgerPeriodChecksUptoRow, standIns := [], harness := (true, "ef333a2032a4ac1e563a5015b0720cd2a9a5a9e2c9ba2ec55ffbaf3dac49514a"), looks := false }, kinds := [], alts := [], laidByText := true, laidKinds := [.data], laidTests := true, laidLooks := .later }
def LedgerPeriodChecksUptoCardSaid : Prop := Claim7.holds Tryz.pinned (.plain (OpenSpec.upto ledgerPeriodChecksSpec)) ledgerPeriodChecksUptoCard

/-- THE SECOND FORM's CARD OF 'bullalaw08.LedgerPeriodCarries'. -/
def ledgerPeriodCarriesUptoCard : Claim7 := { stood := { row := ledgerPeriodCarriesUptoRow, standIns := [], harness := (true, "ef333a2032a4ac1e563a5015b0720cd2a9a5a9e2c9ba2ec55ffbaf3dac49514a"), looks := false }, kinds := [], alts := [], laidByText := true, laidKinds := [.data], laidTests := true, laidLooks := .later }
def LedgerPeriodCarriesUptoCardSaid : Prop := Claim7.holds Tryz.pinned (.plain (OpenSpec.upto ledgerPeriodCarriesSpec)) ledgerPeriodCarriesUptoCard

/-- THE SECOND FORM's CARD OF 'bullalaw08.LedgerRationsGiven'. -/
def ledgerRationsGivenUptoCard : Claim7 := { stood := { row := ledgerRationsGivenUptoRow, standIns := [], harness := (true, "ef333a2032a4ac1e563a5015b0720cd2a9a5a9e2c9ba2ec55ffbaf3dac49514a"), looks := false }, kinds := [], alts := [], laidByText := true, laidKinds := [.data], laidTests := true, laidLooks := .later }
def LedgerRationsGivenUptoCardSaid : Prop := Claim7.holds Tryz.pinned (.plain (OpenSpec.upto ledgerRationsGivenSpec)) ledgerRationsGivenUptoCard

/-- THE SECOND FORM's CARD OF 'bullalaw08.LedgerPeriodDivides'. -/
def ledgerPeriodDividesUptoCard : Claim7 := { stood := { row := ledgerPeriodDividesUptoRow, standIns := [], harness := (true, "ef333a2032a4ac1e563a5015b0720cd2a9a5a9e2c9ba2ec55ffbaf3dac49514a"), looks := false }, kinds := [], alts := [], laidByText := true, laidKinds := [.data], laidTests := true, laidLooks := .later }
def LedgerPeriodDividesUptoCardSaid : Prop := Claim7.holds Tryz.pinned (.plain (OpenSpec.upto ledgerPeriodDividesSpec)) ledgerPeriodDividesUptoCard

/-- THE SECOND FORM's CARD OF 'bullalaw08.LedgerPeriodJoins'. -/
def ledgerPeriodJoinsUptoCard : Claim7 := { stood := { row := ledgerPeriodJoinsUptoRow, standIns := [], harness := (true, "ef333a2032a4ac1e563a5015b0720cd2a9a5a9e2c9ba2ec55ffbaf3dac49514a"), looks := false }, kinds := [], alts := [], laidByText := true, laidKinds := [.data], laidTests := true, laidLooks := .later }
def LedgerPeriodJoinsUptoCardSaid : Prop := Claim7.holds Tryz.pinned (.plain (OpenSpec.upto ledgerPeriodJoinsSpec)) ledgerPeriodJoinsUptoCard
end Rows
end Go.Proofs.YtneiofnlmblglaaGreatDoor
