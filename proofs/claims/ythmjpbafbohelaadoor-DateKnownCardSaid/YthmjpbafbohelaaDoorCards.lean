/-
  DERIVED. GIVEN WITH THE SEED: THE CARDS: each row of YthmjpbafbohelaaDoorRows.lean that lists a variable, with what it lists TIED to the program's text (the seventh form; the later family's looks); each row that meets fmt, with fmt's text TOLD by the authors' own Lean function (tested against real Go, not proved from fmt's source: count such statements apart). THE CARD IS WHAT COUNTS. Prove the row's statement (the work); the ties are given (YthmjpbafbohelaaDoorTie.lean); close each card by the builder's one call (the guide's Derived/Test/ToyasCard.lean, 'card_holds'). Laid BY PROGRAM, IN A SANDBOX (cutbox-door.mjs). By AI agents, Wed Nov 11 2026. No macro, syntax, notation, axiom, sorry.
-/
import Derived.Test.YthmjpbafbohelaaDoorRows
import GoSem.ClaimSeven
namespace Go.Proofs.YthmjpbafbohelaaDoor
namespace Rows

/-- THE TIED CARD OF 'bullatop.TopDates'. -/
def topDatesCard : Claim7 := { stood := { row := topDatesRow, standIns := [], harness := (true, "80617e37ac3bfc4dc5113f16f508af69efa408730f2c5dd826126a9c3593089d"), looks := false }, kinds := [], alts := [], laidByText := true, laidKinds := [.data, .data, .data, .data], laidTests := true, laidLooks := .later }
def TopDatesCardSaid : Prop := Claim7.holds Tryd.pinned (.plain (OpenSpec.ofChange topDatesSpec)) topDatesCard

/-- THE TIED CARD OF 'bullalaw08.LedgerHerdGrows'. -/
def ledgerHerdGrowsCard : Claim7 := { stood := { row := ledgerHerdGrowsRow, standIns := [], harness := (true, "80617e37ac3bfc4dc5113f16f508af69efa408730f2c5dd826126a9c3593089d"), looks := false }, kinds := [], alts := [], laidByText := true, laidKinds := [.data], laidTests := true, laidLooks := .later }
def LedgerHerdGrowsCardSaid : Prop := Claim7.holds Tryd.pinned (.plain (OpenSpec.ofChange ledgerHerdGrowsSpec)) ledgerHerdGrowsCard

/-- THE TIED CARD OF 'bullalaw08.LedgerInterestLinear'. -/
def ledgerInterestLinearCard : Claim7 := { stood := { row := ledgerInterestLinearRow, standIns := [], harness := (true, "80617e37ac3bfc4dc5113f16f508af69efa408730f2c5dd826126a9c3593089d"), looks := false }, kinds := [], alts := [], laidByText := true, laidKinds := [.data], laidTests := true, laidLooks := .later }
def LedgerInterestLinearCardSaid : Prop := Claim7.holds Tryd.pinned (.plain (OpenSpec.ofChange ledgerInterestLinearSpec)) ledgerInterestLinearCard

/-- THE TIED CARD OF 'bullalaw08.LedgerDoublesFirst'. -/
def ledgerDoublesFirstCard : Claim7 := { stood := { row := ledgerDoublesFirstRow, standIns := [], harness := (true, "80617e37ac3bfc4dc5113f16f508af69efa408730f2c5dd826126a9c3593089d"), looks := false }, kinds := [], alts := [], laidByText := true, laidKinds := [.data], laidTests := true, laidLooks := .later }
def LedgerDoublesFirstCardSaid : Prop := Claim7.holds Tryd.pinned (.plain (OpenSpec.ofChange ledgerDoublesFirstSpec)) ledgerDoublesFirstCard

/-- THE TIED CARD OF 'bullalaw08.LedgerFewestSuffices'. -/
def ledgerFewestSufficesCard : Claim7 := { stood := { row := ledgerFewestSufficesRow, standIns := [], harness := (true, "80617e37ac3bfc4dc5113f16f508af69efa408730f2c5dd826126a9c3593089d"), looks := false }, kinds := [], alts := [], laidByText := true, laidKinds := [.data], laidTests := true, laidLooks := .later }
def LedgerFewestSufficesCardSaid : Prop := Claim7.holds Tryd.pinned (.plain (OpenSpec.ofChange ledgerFewestSufficesSpec)) ledgerFewestSufficesCard

/-- THE TIED CARD OF 'bullalaw08.LedgerPaymentsKept'. -/
def ledgerPaymentsKeptCard : Claim7 := { stood := { row := ledgerPaymentsKeptRow, standIns := [], harness := (true, "80617e37ac3bfc4dc5113f16f508af69efa408730f2c5dd826126a9c3593089d"), looks := false }, kinds := [], alts := [], laidByText := true, laidKinds := [.data], laidTests := true, laidLooks := .later }
def LedgerPaymentsKeptCardSaid : Prop := Claim7.holds Tryd.pinned (.plain (OpenSpec.ofChange ledgerPaymentsKeptSpec)) ledgerPaymentsKeptCard

/-- THE TIED CARD OF 'bullalaw08.LedgerSettleClears'. -/
def ledgerSettleClearsCard : Claim7 := { stood := { row := ledgerSettleClearsRow, standIns := [], harness := (true, "80617e37ac3bfc4dc5113f16f508af69efa408730f2c5dd826126a9c3593089d"), looks := false }, kinds := [], alts := [], laidByText := true, laidKinds := [.data], laidTests := true, laidLooks := .later }
def LedgerSettleClearsCardSaid : Prop := Claim7.holds Tryd.pinned (.plain (OpenSpec.ofChange ledgerSettleClearsSpec)) ledgerSettleClearsCard

/-- THE TIED CARD OF 'bullalaw07.DateKnown'. -/
def dateKnownCard : Claim7 := { stood := { row := dateKnownRow, standIns := [], harness := (true, "80617e37ac3bfc4dc5113f16f508af69efa408730f2c5dd826126a9c3593089d"), looks := false }, kinds := [], alts := [], laidByText := true, laidKinds := [.data, .data, .data], laidTests := true, laidLooks := .later }
def DateKnownCardSaid : Prop := Claim7.holds Tryd.pinned (.plain (OpenSpec.ofChange dateKnownSpec)) dateKnownCard

/-- THE SECOND FORM's CARD OF 'bullatop.TopDates'. -/
def topDatesUptoCard : Claim7 := { stood := { row := topDatesUptoRow, standIns := [], harness := (true, "80617e37ac3bfc4dc5113f16f508af69efa408730f2c5dd826126a9c3593089d"), looks := false }, kinds := [], alts := [], laidByText := true, laidKinds := [.data, .data, .data, .data], laidTests := true, laidLooks := .later }
def TopDatesUptoCardSaid : Prop := Claim7.holds Tryd.pinned (.plain (OpenSpec.upto topDatesSpec)) topDatesUptoCard

/-- THE SECOND FORM's CARD OF 'bullalaw08.LedgerHerdGrows'. -/
def ledgerHerdGrowsUptoCard : Claim7 := { stood := { row := ledgerHerdGrowsUptoRow, standIns := [], harness := (true, "80617e37ac3bfc4dc5113f16f508af69efa408730f2c5dd826126a9c3593089d"), looks := false }, kinds := [], alts := [], laidByText := true, laidKinds := [.data], laidTests := true, laidLooks := .later }
def LedgerHerdGrowsUptoCardSaid : Prop := Claim7.holds Tryd.pinned (.plain (OpenSpec.upto ledgerHerdGrowsSpec)) ledgerHerdGrowsUptoCard

/-- THE SECOND FORM's CARD OF 'bullalaw08.LedgerInterestLinear'. -/
def ledgerInterestLinearUptoCard : Claim7 := { stood := { row := ledgerInterestLinearUptoRow, standIns := [], harness := (true, "80617e37ac3bfc4dc5113f16f508af69efa408730f2c5dd826126a9c3593089d"), looks := false }, kinds := [], alts := [], laidByText := true, laidKinds := [.data], laidTests := true, laidLooks := .later }
def LedgerInterestLinearUptoCardSaid : Prop := Claim7.holds Tryd.pinned (.plain (OpenSpec.upto ledgerInterestLinearSpec)) ledgerInterestLinearUptoCard

/-- THE SECOND FORM's CARD OF 'bullalaw08.LedgerDoublesFirst'. -/
def ledgerDoublesFirstUptoCard : Claim7 := { stood := { row := ledgerDoublesFirstUptoRow, standIns := [], harness := (true, "80617e37ac3bfc4dc5113f16f508af69efa408730f2c5dd826126a9c3593089d"), looks := false }, kinds := [], alts := [], laidByText := true, laidKinds := [.data], laidTests := true, laidLooks := .later }
def LedgerDoublesFirstUptoCardSaid : Prop := Claim7.holds Tryd.pinned (.plain (OpenSpec.upto ledgerDoublesFirstSpec)) ledgerDoublesFirstUptoCard

/-- THE SECOND FORM's CARD OF 'bullalaw08.LedgerFewestSuffices'. -/
def ledgerFewestSufficesUptoCard : Claim7 := { stood := { row := ledgerFewestSufficesUptoRow, standIns := [], harness := (true, "80617e37ac3bfc4dc5113f16f508af69efa408730f2c5dd826126a9c3593089d"), looks := false }, kinds := [], alts := [], laidByText := true, laidKinds := [.data], laidTests := true, laidLooks := .later }
def LedgerFewestSufficesUptoCardSaid : Prop := Claim7.holds Tryd.pinned (.plain (OpenSpec.upto ledgerFewestSufficesSpec)) ledgerFewestSufficesUptoCard

/-- THE SECOND FORM's CARD OF 'bullalaw08.LedgerPaymentsKept'. -/
def ledgerPaymentsKeptUptoCard : Claim7 := { stood := { row := ledgerPaymentsKeptUptoRow, standIns := [], harness := (true, "80617e37ac3bfc4dc5113f16f508af69efa408730f2c5dd826126a9c3593089d"), looks := false }, kinds := [], alts := [], laidByText := true, laidKinds := [.data], laidTests := true, laidLooks := .later }
def LedgerPaymentsKeptUptoCardSaid : Prop := Claim7.holds Tryd.pinned (.plain (OpenSpec.upto ledgerPaymentsKeptSpec)) ledgerPaymentsKeptUptoCard

/-- THE SECOND FORM's CARD OF 'bullalaw08.LedgerSettleClears'. -/
def ledgerSettleClearsUptoCard : Claim7 := { stood := { row := ledgerSettleClearsUptoRow, standIns := [], harness := (true, "80617e37ac3bfc4dc5113f16f508af69efa408730f2c5dd826126a9c3593089d"), looks := false }, kinds := [], alts := [], laidByText := true, laidKinds := [.data], laidTests := true, laidLooks := .later }
def LedgerSettleClearsUptoCardSaid : Prop := Claim7.holds Tryd.pinned (.plain (OpenSpec.upto ledgerSettleClearsSpec)) ledgerSettleClearsUptoCard

/-- THE SECOND FORM's CARD OF 'bullalaw07.DateKnown'. -/
def dateKnownUptoCard : Claim7 := { stood := { row := dateKnownUptoRow, standIns := [], harness := (true, "80617e37ac3bfc4dc5113f16f508af69efa408730f2c5dd826126a9c3593089d"), looks := false }, kinds := [], alts := [], laidByText := true, laidKinds := [.data, .data, .data], laidTests := true, laidLooks := .later }
def DateKnownUptoCardSaid : Prop := Claim7.holds Tryd.pinned (.plain (OpenSpec.upto dateKnownSpec)) dateKnownUptoCard
end Rows
end Go.Proofs.YthmjpbafbohelaaDoor
