/-
  DERIVED. GIVEN WITH THE SEED: THE CARDS: each row of YtoflcheopfppoaaGreatDoorRows.lean that lists a variable, with what it lists TIED to the program's text (the seventh form; the later family's looks); each row that meets fmt, with fmt's text TOLD by the authors' own Lean function (tested against real Go, not proved from fmt's source: count such statements apart). THE CARD IS WHAT COUNTS. Prove the row's statement (the work); the ties are given (YtoflcheopfppoaaGreatDoorTie.lean); close each card by the builder's one call (the guide's Derived/Test/ToyasCard.lean, 'card_holds'). Laid BY PROGRAM, IN A SANDBOX (cutbox-door.mjs). By AI agents, Wed Nov 11 2026. No macro, syntax, notation, axiom, sorry.
-/
import Derived.Test.YtoflcheopfppoaaGreatDoorRows
import GoSem.ClaimSeven
namespace Go.Proofs.YtoflcheopfppoaaGreatDoor
namespace Rows

/-- THE TIED CARD OF 'bullalaw08.LedgerArchiveMatches'. -/
def ledgerArchiveMatchesCard : Claim7 := { stood := { row := ledgerArchiveMatchesRow, standIns := [], harness := (true, "5824dde8c5e34810576a40400c779b29cb6068a4f05b76446f3351c2fb9dfc16"), looks := false }, kinds := [], alts := [], laidByText := true, laidKinds := [.data], laidTests := true, laidLooks := .later }
def LedgerArchiveMatchesCardSaid : Prop := Claim7.holds Tryz.pinned (.plain (OpenSpec.ofChange ledgerArchiveMatchesSpec)) ledgerArchiveMatchesCard

/-- THE TIED CARD OF 'bullalaw08.LedgerMatchingMost'. -/
def ledgerMatchingMostCard : Claim7 := { stood := { row := ledgerMatchingMostRow, standIns := [], harness := (true, "5824dde8c5e34810576a40400c779b29cb6068a4f05b76446f3351c2fb9dfc16"), looks := false }, kinds := [], alts := [], laidByText := true, laidKinds := [.data], laidTests := true, laidLooks := .later }
def LedgerMatchingMostCardSaid : Prop := Claim7.holds Tryz.pinned (.plain (OpenSpec.ofChange ledgerMatchingMostSpec)) ledgerMatchingMostCard

/-- THE TIED CARD OF 'bullalaw08.LedgerArchiveAudits'. -/
def ledgerArchiveAuditsCard : Claim7 := { stood := { row := ledgerArchiveAuditsRow, standIns := [], harness := (true, "5824dde8c5e34810576a40400c779b29cb6068a4f05b76446f3351c2fb9dfc16"), looks := false }, kinds := [], alts := [], laidByText := true, laidKinds := [.data], laidTests := true, laidLooks := .later }
def LedgerArchiveAuditsCardSaid : Prop := Claim7.holds Tryz.pinned (.plain (OpenSpec.ofChange ledgerArchiveAuditsSpec)) ledgerArchiveAuditsCard

/-- THE TIED CARD OF 'bullalaw08.LedgerAuditClean'. -/
def ledgerAuditCleanCard : Claim7 := { stood := { row := ledgerAuditCleanRow, standIns := [], harness := (true, "5824dde8c5e34810576a40400c779b29cb6068a4f05b76446f3351c2fb9dfc16"), looks := false }, kinds := [], alts := [], laidByText := true, laidKinds := [.data], laidTests := true, laidLooks := .later }
def LedgerAuditCleanCardSaid : Prop := Claim7.holds Tryz.pinned (.plain (OpenSpec.ofChange ledgerAuditCleanSpec)) ledgerAuditCleanCard

/-- THE TIED CARD OF 'bullalaw08.LedgerKnown'. -/
def ledgerKnownCard : Claim7 := { stood := { row := ledgerKnownRow, standIns := [], harness := (true, "5824dde8c5e34810576a40400c779b29cb6068a4f05b76446f3351c2fb9dfc16"), looks := false }, kinds := [], alts := [], laidByText := true, laidKinds := [.data], laidTests := true, laidLooks := .later }
def LedgerKnownCardSaid : Prop := Claim7.holds Tryz.pinned (.plain (OpenSpec.ofChange ledgerKnownSpec)) ledgerKnownCard

/-- THE SECOND FORM's CARD OF 'bullalaw08.LedgerArchiveMatches'. -/
def ledgerArchiveMatchesUptoCard : Claim7 := { stood := { row := ledgerArchiveMatchesUptoRow, standIns := [], harness := (true, "5824dde8c5e34810576a40400c779b29cb6068a4f05b76446f3351c2fb9dfc16"), looks := false }, kinds := [], alts := [], laidByText := true, laidKinds := [.data], laidTests := true, laidLooks := .later }
def LedgerArchiveMatchesUptoCardSaid : Prop := Claim7.holds Tryz.pinned (.plain (OpenSpec.upto ledgerArchiveMatchesSpec)) ledgerArchiveMatchesUptoCard

/-- THE SECOND FORM's CARD OF 'bullalaw08.LedgerMatchingMost'. -/
def ledgerMatchingMostUptoCard : Claim7 := { stood := { row := ledgerMatchingMostUptoRow, standIns := [], harness := (true, "5824dde8c5e34810576a40400c779b29cb6068a4f05b76446f3351c2fb9dfc16"), looks := false }, kinds := [], alts := [], laidByText := true, laidKinds := [.data], laidTests := true, laidLooks := .later }
def LedgerMatchingMostUptoCardSaid : Prop := Claim7.holds Tryz.pinned (.plain (OpenSpec.upto ledgerMatchingMostSpec)) ledgerMatchingMostUptoCard

/-- THE SECOND FORM's CARD OF 'bullalaw08.LedgerArchiveAudits'. -/
def ledgerArchiveAuditsUptoCard : Claim7 := { stood := { row := ledgerArchiveAuditsUptoRow, standIns := [], harness := (true, "5824dde8c5e34810576a40400c779b29cb6068a4f05b76446f3351c2fb9dfc16"), looks := false }, kinds := [], alts := [], laidByText := true, laidKinds := [.data], laidTests := true, laidLooks := .later }
def LedgerArchiveAuditsUptoCardSaid : Prop := Claim7.holds Tryz.pinned (.plain (OpenSpec.upto ledgerArchiveAuditsSpec)) ledgerArchiveAuditsUptoCard

/-- THE SECOND FORM's CARD OF 'bullalaw08.LedgerAuditClean'. -/
def ledgerAuditCleanUptoCard : Claim7 := { stood := { row := ledgerAuditCleanUptoRow, standIns := [], harness := (true, "5824dde8c5e34810576a40400c779b29cb6068a4f05b76446f3351c2fb9dfc16"), looks := false }, kinds := [], alts := [], laidByText := true, laidKinds := [.data], laidTests := true, laidLooks := .later }
def LedgerAuditCleanUptoCardSaid : Prop := Claim7.holds Tryz.pinned (.plain (OpenSpec.upto ledgerAuditCleanSpec)) ledgerAuditCleanUptoCard

/-- THE SECOND FORM's CARD OF 'bullalaw08.LedgerKnown'. -/
def ledgerKnownUptoCard : Claim7 := { stood := { row := ledgerKnownUptoRow, standIns := [], harness := (true, "5824dde8c5e34810576a40400c779b29cb6068a4f05b76446f3351c2fb9dfc16"), looks := false }, kinds := [], alts := [], laidByText := true, laidKinds := [.data], laidTests := true, laidLooks := .later }
def LedgerKnownUptoCardSaid : Prop := Claim7.holds Tryz.pinned (.plain (OpenSpec.upto ledgerKnownSpec)) ledgerKnownUptoCard
end Rows
end Go.Proofs.YtoflcheopfppoaaGreatDoor
