/-
  DERIVED. GIVEN WITH THE SEED: THE CARDS: each row of YthmjpbafbohelaaGreatDoorRows.lean that lists a variable, with what it lists TIED to the program's text (the seventh form; the later family's looks); each row that meets fmt, with fmt's text TOLD by the authors' own Lean function (tested against real Go, not proved from fmt's source: count such statements apart). THE CARD IS WHAT COUNTS. Prove the row's statement (the work); the ties are given (YthmjpbafbohelaaGreatDoorTie.lean); close each card by the builder's one call (the guide's Derived/Test/ToyasCard.lean, 'card_holds'). Laid BY PROGRAM, IN A SANDBOX (cutbox-door.mjs). By AI agents, Wed Nov 11 2026. No macro, syntax, notation, axiom, sorry.
-/
import Derived.Test.YthmjpbafbohelaaGreatDoorRows
import GoSem.ClaimSeven
namespace Go.Proofs.YthmjpbafbohelaaGreatDoor
namespace Rows

/-- THE TIED CARD OF 'bullalaw08.LedgerInterestPays'. -/
def ledgerInterestPaysCard : Claim7 := { stood := { row := ledgerInterestPaysRow, standIns := [], harness := (true, "f262f86c5bfc56de1f2ceab648e2b879839632c34bb1379693778e72c4dff6a1"), looks := false }, kinds := [], alts := [], laidByText := true, laidKinds := [.data], laidTests := true, laidLooks := .later }
def LedgerInterestPaysCardSaid : Prop := Claim7.holds Tryz.pinned (.plain (OpenSpec.ofChange ledgerInterestPaysSpec)) ledgerInterestPaysCard

/-- THE TIED CARD OF 'bullalaw08.LedgerWorkFewest'. -/
def ledgerWorkFewestCard : Claim7 := { stood := { row := ledgerWorkFewestRow, standIns := [], harness := (true, "f262f86c5bfc56de1f2ceab648e2b879839632c34bb1379693778e72c4dff6a1"), looks := false }, kinds := [], alts := [], laidByText := true, laidKinds := [.data], laidTests := true, laidLooks := .later }
def LedgerWorkFewestCardSaid : Prop := Claim7.holds Tryz.pinned (.plain (OpenSpec.ofChange ledgerWorkFewestSpec)) ledgerWorkFewestCard

/-- THE TIED CARD OF 'bullalaw08.LedgerPeriodChecks'. -/
def ledgerPeriodChecksCard : Claim7 := { stood := { row := ledgerPeriodChecksRow, standIns := [], harness := (true, "f262f86c5bfc56de1f2ceab648e2b879839632c34bb1379693778e72c4dff6a1"), looks := false }, kinds := [], alts := [], laidByText := true, laidKinds := [.data], laidTests := true, laidLooks := .later }
def LedgerPeriodChecksCardSaid : Prop := Claim7.holds Tryz.pinned (.plain (OpenSpec.ofChange ledgerPeriodChecksSpec)) ledgerPeriodChecksCard

/-- THE TIED CARD OF 'bullalaw08.LedgerLoanOwed'. -/
def ledgerLoanOwedCard : Claim7 := { stood := { row := ledgerLoanOwedRow, standIns := [], harness := (true, "f262f86c5bfc56de1f2ceab648e2b879839632c34bb1379693778e72c4dff6a1"), looks := false }, kinds := [], alts := [], laidByText := true, laidKinds := [.data], laidTests := true, laidLooks := .later }
def LedgerLoanOwedCardSaid : Prop := Claim7.holds Tryz.pinned (.plain (OpenSpec.ofChange ledgerLoanOwedSpec)) ledgerLoanOwedCard

/-- THE TIED CARD OF 'bullalaw08.LedgerWorkNeeds'. -/
def ledgerWorkNeedsCard : Claim7 := { stood := { row := ledgerWorkNeedsRow, standIns := [], harness := (true, "f262f86c5bfc56de1f2ceab648e2b879839632c34bb1379693778e72c4dff6a1"), looks := false }, kinds := [], alts := [], laidByText := true, laidKinds := [.data], laidTests := true, laidLooks := .later }
def LedgerWorkNeedsCardSaid : Prop := Claim7.holds Tryz.pinned (.plain (OpenSpec.ofChange ledgerWorkNeedsSpec)) ledgerWorkNeedsCard

/-- THE TIED CARD OF 'bullalaw08.LedgerPeriodCarries'. -/
def ledgerPeriodCarriesCard : Claim7 := { stood := { row := ledgerPeriodCarriesRow, standIns := [], harness := (true, "f262f86c5bfc56de1f2ceab648e2b879839632c34bb1379693778e72c4dff6a1"), looks := false }, kinds := [], alts := [], laidByText := true, laidKinds := [.data], laidTests := true, laidLooks := .later }
def LedgerPeriodCarriesCardSaid : Prop := Claim7.holds Tryz.pinned (.plain (OpenSpec.ofChange ledgerPeriodCarriesSpec)) ledgerPeriodCarriesCard

/-- THE TIED CARD OF 'bullalaw08.LedgerPeriodDivides'. -/
def ledgerPeriodDividesCard : Claim7 := { stood := { row := ledgerPeriodDividesRow, standIns := [], harness := (true, "f262f86c5bfc56de1f2ceab648e2b879839632c34bb1379693778e72c4dff6a1"), looks := false }, kinds := [], alts := [], laidByText := true, laidKinds := [.data], laidTests := true, laidLooks := .later }
def LedgerPeriodDividesCardSaid : Prop := Claim7.holds Tryz.pinned (.plain (OpenSpec.ofChange ledgerPeriodDividesSpec)) ledgerPeriodDividesCard

/-- THE TIED CARD OF 'bullalaw08.LedgerPeriodJoins'. -/
def ledgerPeriodJoinsCard : Claim7 := { stood := { row := ledgerPeriodJoinsRow, standIns := [], harness := (true, "f262f86c5bfc56de1f2ceab648e2b879839632c34bb1379693778e72c4dff6a1"), looks := false }, kinds := [], alts := [], laidByText := true, laidKinds := [.data], laidTests := true, laidLooks := .later }
def LedgerPeriodJoinsCardSaid : Prop := Claim7.holds Tryz.pinned (.plain (OpenSpec.ofChange ledgerPeriodJoinsSpec)) ledgerPeriodJoinsCard

/-- THE SECOND FORM's CARD OF 'bullalaw08.LedgerInterestPays'. -/
def ledgerInterestPaysUptoCard : Claim7 := { stood := { row := ledgerInterestPaysUptoRow, standIns := [], harness := (true, "f262f86c5bfc56de1f2ceab648e2b879839632c34bb1379693778e72c4dff6a1"), looks := false }, kinds := [], alts := [], laidByText := true, laidKinds := [.data], laidTests := true, laidLooks := .later }
def LedgerInterestPaysUptoCardSaid : Prop := Claim7.holds Tryz.pinned (.plain (OpenSpec.upto ledgerInterestPaysSpec)) ledgerInterestPaysUptoCard

/-- THE SECOND FORM's CARD OF 'bullalaw08.LedgerWorkFewest'. -/
def ledgerWorkFewestUptoCard : Claim7 := { stood := { row := ledgerWorkFewestUptoRow, standIns := [], harness := (true, "f262f86c5bfc56de1f2ceab648e2b879839632c34bb1379693778e72c4dff6a1"), looks := false }, kinds := [], alts := [], laidByText := true, laidKinds := [.data], laidTests := true, laidLooks := .later }
def LedgerWorkFewestUptoCardSaid : Prop := Claim7.holds Tryz.pinned (.plain (OpenSpec.upto ledgerWorkFewestSpec)) ledgerWorkFewestUptoCard

/-- THE SECOND FORM's CARD OF 'bullalaw08.LedgerPeriodChecks'. -/
def ledgerPeriodChecksUptoCard : Claim7 := { stood := { row := ledgerPeriodChecksUptoRow, standIns := [], harness := (true, "f262f86c5bfc56de1f2ceab648e2b879839632c34bb1379693778e72c4dff6a1"), looks := false }, kinds := [], alts := [], laidByText := true, laidKinds := [.data], laidTests := true, laidLooks := .later }
def LedgerPeriodChecksUptoCardSaid : Prop := Claim7.holds Tryz.pinned (.plain (OpenSpec.upto ledgerPeriodChecksSpec)) ledgerPeriodChecksUptoCard

/-- THE SECOND FORM's CARD OF 'bullalaw08.LedgerLoanOwed'. -/
def ledgerLoanOwedUptoCard : Claim7 := { stood := { row := ledgerLoanOwedUptoRow, standIns := [], harness := (true, "f262f86c5bfc56de1f2ceab648e2b879839632c34bb1379693778e72c4dff6a1"), looks := false }, kinds := [], alts := [], laidByText := true, laidKinds := [.data], laidTests := true, laidLooks := .later }
def LedgerLoanOwedUptoCardSaid : Prop := Claim7.holds Tryz.pinned (.plain (OpenSpec.upto ledgerLoanOwedSpec)) ledgerLoanOwedUptoCard

/-- THE SECOND FORM's CARD OF 'bullalaw08.LedgerWorkNeeds'. -/
def ledgerWorkNeedsUptoCard : Claim7 := { stood := { row := ledgerWorkNeedsUptoRow, standIns := [], harness := (true, "f262f86c5bfc56de1f2ceab648e2b879839632c34bb1379693778e72c4dff6a1"), looks := false }, kinds := [], alts := [], laidByText := true, laidKinds := [.data], laidTests := true, laidLooks := .later }
def LedgerWorkNeedsUptoCardSaid : Prop := Claim7.holds Tryz.pinned (.plain (OpenSpec.upto ledgerWorkNeedsSpec)) ledgerWorkNeedsUptoCard

/-- THE SECOND FORM's CARD OF 'bullalaw08.LedgerPeriodCarries'. -/
def ledgerPeriodCarriesUptoCard : Claim7 := { stood := { row := ledgerPeriodCarriesUptoRow, standIns := [], harness := (true, "f262f86c5bfc56de1f2ceab648e2b879839632c34bb1379693778e72c4dff6a1"), looks := false }, kinds := [], alts := [], laidByText := true, laidKinds := [.data], laidTests := true, laidLooks := .later }
def LedgerPeriodCarriesUptoCardSaid : Prop := Claim7.holds Tryz.pinned (.plain (OpenSpec.upto ledgerPeriodCarriesSpec)) ledgerPeriodCarriesUptoCard

/-- THE SECOND FORM's CARD OF 'bullalaw08.LedgerPeriodDivides'. -/
def ledgerPeriodDividesUptoCard : Claim7 := { stood := { row := ledgerPeriodDividesUptoRow, standIns := [], harness := (true, "f262f86c5bfc56de1f2ceab648e2b879839632c34bb1379693778e72c4dff6a1"), looks := false }, kinds := [], alts := [], laidByText := true, laidKinds := [.data], laidTests := true, laidLooks := .later }
def LedgerPeriodDividesUptoCardSaid : Prop := Claim7.holds Tryz.pinned (.plain (OpenSpec.upto ledgerPeriodDividesSpec)) ledgerPeriodDividesUptoCard

/-- THE SECOND FORM's CARD OF 'bullalaw08.LedgerPeriodJoins'. -/
def ledgerPeriodJoinsUptoCard : Claim7 := { stood := { row := ledgerPeriodJoinsUptoRow, standIns := [], harness := (true, "f262f86c5bfc56de1f2ceab648e2b879839632c34bb1379693778e72c4dff6a1"), looks := false }, kinds := [], alts := [], laidByText := true, laidKinds := [.data], laidTests := true, laidLooks := .later }
def LedgerPeriodJoinsUptoCardSaid : Prop := Claim7.holds Tryz.pinned (.plain (OpenSpec.upto ledgerPeriodJoinsSpec)) ledgerPeriodJoinsUptoCard
end Rows
end Go.Proofs.YthmjpbafbohelaaGreatDoor
