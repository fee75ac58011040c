/-
  DERIVED. GIVEN WITH THE SEED: THE CARDS: each row of YtneiofnlmblglaaDoorRows.lean that lists a variable, with what it lists TIED to the program's text (the seventh form; the later family's looks); each row that meets fmt, with fmt's text TOLD by the authors' own Lean function (tested against real Go, not proved from fmt's source: count such statements apart). THE CARD IS WHAT COUNTS. Prove the row's statement (the work); the ties are given (YtneiofnlmblglaaDoorTie.lean); close each card by the builder's one call (the guide's Derived/Test/ToyasCard.lean, 'card_holds'). Laid BY PROGRAM, IN A SANDBOX (cutbox-door.mjs). By AI agents, Wed Nov 11 2026. No macro, syntax, notation, axiom, sorry.
-/
import Derived.Test.YtneiofnlmblglaaDoorRows
import GoSem.ClaimSeven
namespace Go.Proofs.YtneiofnlmblglaaDoor
namespace Rows

/-- THE TIED CARD OF 'bullatop.TopCarries'. -/
def topCarriesCard : Claim7 := { stood := { row := topCarriesRow, standIns := [], harness := (true, "e5595072a1402bfb234e305659238594a60206e377983eaf2e5903cbecb14cc5"), looks := false }, kinds := [], alts := [], laidByText := true, laidKinds := [.data], laidTests := true, laidLooks := .later }
def TopCarriesCardSaid : Prop := Claim7.holds Tryd.pinned (.plain (OpenSpec.ofChange topCarriesSpec)) topCarriesCard

/-- THE TIED CARD OF 'bullalaw08.LedgerCarryJoins'. -/
def ledgerCarryJoinsCard : Claim7 := { stood := { row := ledgerCarryJoinsRow, standIns := [], harness := (true, "e5595072a1402bfb234e305659238594a60206e377983eaf2e5903cbecb14cc5"), looks := false }, kinds := [], alts := [], laidByText := true, laidKinds := [.data], laidTests := true, laidLooks := .later }
def LedgerCarryJoinsCardSaid : Prop := Claim7.holds Tryd.pinned (.plain (OpenSpec.ofChange ledgerCarryJoinsSpec)) ledgerCarryJoinsCard

/-- THE TIED CARD OF 'bullalaw08.LedgerDivideJoins'. -/
def ledgerDivideJoinsCard : Claim7 := { stood := { row := ledgerDivideJoinsRow, standIns := [], harness := (true, "e5595072a1402bfb234e305659238594a60206e377983eaf2e5903cbecb14cc5"), looks := false }, kinds := [], alts := [], laidByText := true, laidKinds := [.data], laidTests := true, laidLooks := .later }
def LedgerDivideJoinsCardSaid : Prop := Claim7.holds Tryd.pinned (.plain (OpenSpec.ofChange ledgerDivideJoinsSpec)) ledgerDivideJoinsCard

/-- THE SECOND FORM's CARD OF 'bullatop.TopCarries'. -/
def topCarriesUptoCard : Claim7 := { stood := { row := topCarriesUptoRow, standIns := [], harness := (true, "e5595072a1402bfb234e305659238594a60206e377983eaf2e5903cbecb14cc5"), looks := false }, kinds := [], alts := [], laidByText := true, laidKinds := [.data], laidTests := true, laidLooks := .later }
def TopCarriesUptoCardSaid : Prop := Claim7.holds Tryd.pinned (.plain (OpenSpec.upto topCarriesSpec)) topCarriesUptoCard

/-- THE SECOND FORM's CARD OF 'bullalaw08.LedgerCarryJoins'. -/
def ledgerCarryJoinsUptoCard : Claim7 := { stood := { row := ledgerCarryJoinsUptoRow, standIns := [], harness := (true, "e5595072a1402bfb234e305659238594a60206e377983eaf2e5903cbecb14cc5"), looks := false }, kinds := [], alts := [], laidByText := true, laidKinds := [.data], laidTests := true, laidLooks := .later }
def LedgerCarryJoinsUptoCardSaid : Prop := Claim7.holds Tryd.pinned (.plain (OpenSpec.upto ledgerCarryJoinsSpec)) ledgerCarryJoinsUptoCard

/-- THE SECOND FORM's CARD OF 'bullalaw08.LedgerDivideJoins'. -/
def ledgerDivideJoinsUptoCard : Claim7 := { stood := { row := ledgerDivideJoinsUptoRow, standIns := [], harness := (true, "e5595072a1402bfb234e305659238594a60206e377983eaf2e5903cbecb14cc5"), looks := false }, kinds := [], alts := [], laidByText := true, laidKinds := [.data], laidTests := true, laidLooks := .later }
def LedgerDivideJoinsUptoCardSaid : Prop := Claim7.holds Tryd.pinned (.plain (OpenSpec.upto ledgerDivideJoinsSpec)) ledgerDivideJoinsUptoCard
end Rows
end Go.Proofs.YtneiofnlmblglaaDoor
