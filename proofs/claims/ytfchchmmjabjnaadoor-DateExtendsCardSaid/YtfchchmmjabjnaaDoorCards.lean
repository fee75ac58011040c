/-
  DERIVED. GIVEN WITH THE SEED: THE CARDS: each row of YtfchchmmjabjnaaDoorRows.lean that lists a variable, with what it lists TIED to the program's text (the seventh form; the later family's looks); each row that meets fmt, with fmt's text TOLD by the authors' own Lean function (tested against real Go, not proved from fmt's source: count such statements apart). THE CARD IS WHAT COUNTS. Prove the row's statement (the work); the ties are given (YtfchchmmjabjnaaDoorTie.lean); close each card by the builder's one call (the guide's Derived/Test/ToyasCard.lean, 'card_holds'). Laid BY PROGRAM, IN A SANDBOX (cutbox-door.mjs). By AI agents, Wed Nov 11 2026. No macro, syntax, notation, axiom, sorry.
-/
import Derived.Test.YtfchchmmjabjnaaDoorRows
import GoSem.ClaimSeven
namespace Go.Proofs.YtfchchmmjabjnaaDoor
namespace Rows

/-- THE TIED CARD OF 'bullalaw07.DateSeries'. -/
def dateSeriesCard : Claim7 := { stood := { row := dateSeriesRow, standIns := [], harness := (true, "547462f523625a6791988ee8e94493eee5933808cf758ad0f6ad3f496e208b0f"), looks := false }, kinds := [], alts := [], laidByText := true, laidKinds := [.data, .data, .data], laidTests := true, laidLooks := .later }
def DateSeriesCardSaid : Prop := Claim7.holds Tryd.pinned (.plain (OpenSpec.ofChange dateSeriesSpec)) dateSeriesCard

/-- THE TIED CARD OF 'bullalaw07.DateOrder'. -/
def dateOrderCard : Claim7 := { stood := { row := dateOrderRow, standIns := [], harness := (true, "547462f523625a6791988ee8e94493eee5933808cf758ad0f6ad3f496e208b0f"), looks := false }, kinds := [], alts := [], laidByText := true, laidKinds := [.data, .data, .data], laidTests := true, laidLooks := .later }
def DateOrderCardSaid : Prop := Claim7.holds Tryd.pinned (.plain (OpenSpec.ofChange dateOrderSpec)) dateOrderCard

/-- THE TIED CARD OF 'bullalaw07.DateTraceWidens'. -/
def dateTraceWidensCard : Claim7 := { stood := { row := dateTraceWidensRow, standIns := [], harness := (true, "547462f523625a6791988ee8e94493eee5933808cf758ad0f6ad3f496e208b0f"), looks := false }, kinds := [], alts := [], laidByText := true, laidKinds := [.data, .data, .data], laidTests := true, laidLooks := .later }
def DateTraceWidensCardSaid : Prop := Claim7.holds Tryd.pinned (.plain (OpenSpec.ofChange dateTraceWidensSpec)) dateTraceWidensCard

/-- THE TIED CARD OF 'bullalaw07.DateSeriesNarrows'. -/
def dateSeriesNarrowsCard : Claim7 := { stood := { row := dateSeriesNarrowsRow, standIns := [], harness := (true, "547462f523625a6791988ee8e94493eee5933808cf758ad0f6ad3f496e208b0f"), looks := false }, kinds := [], alts := [], laidByText := true, laidKinds := [.data, .data, .data], laidTests := true, laidLooks := .later }
def DateSeriesNarrowsCardSaid : Prop := Claim7.holds Tryd.pinned (.plain (OpenSpec.ofChange dateSeriesNarrowsSpec)) dateSeriesNarrowsCard

/-- THE TIED CARD OF 'bullalaw07.DateTraceFits'. -/
def dateTraceFitsCard : Claim7 := { stood := { row := dateTraceFitsRow, standIns := [], harness := (true, "547462f523625a6791988ee8e94493eee5933808cf758ad0f6ad3f496e208b0f"), looks := false }, kinds := [], alts := [], laidByText := true, laidKinds := [.data, .data, .data], laidTests := true, laidLooks := .later }
def DateTraceFitsCardSaid : Prop := Claim7.holds Tryd.pinned (.plain (OpenSpec.ofChange dateTraceFitsSpec)) dateTraceFitsCard

/-- THE TIED CARD OF 'bullalaw07.DateSpansFit'. -/
def dateSpansFitCard : Claim7 := { stood := { row := dateSpansFitRow, standIns := [], harness := (true, "547462f523625a6791988ee8e94493eee5933808cf758ad0f6ad3f496e208b0f"), looks := false }, kinds := [], alts := [], laidByText := true, laidKinds := [.data, .data, .data], laidTests := true, laidLooks := .later }
def DateSpansFitCardSaid : Prop := Claim7.holds Tryd.pinned (.plain (OpenSpec.ofChange dateSpansFitSpec)) dateSpansFitCard

/-- THE TIED CARD OF 'bullalaw07.DateSeriesHolds'. -/
def dateSeriesHoldsCard : Claim7 := { stood := { row := dateSeriesHoldsRow, standIns := [], harness := (true, "547462f523625a6791988ee8e94493eee5933808cf758ad0f6ad3f496e208b0f"), looks := false }, kinds := [], alts := [], laidByText := true, laidKinds := [.data, .data, .data], laidTests := true, laidLooks := .later }
def DateSeriesHoldsCardSaid : Prop := Claim7.holds Tryd.pinned (.plain (OpenSpec.ofChange dateSeriesHoldsSpec)) dateSeriesHoldsCard

/-- THE TIED CARD OF 'bullalaw07.DateSeriesExact'. -/
def dateSeriesExactCard : Claim7 := { stood := { row := dateSeriesExactRow, standIns := [], harness := (true, "547462f523625a6791988ee8e94493eee5933808cf758ad0f6ad3f496e208b0f"), looks := false }, kinds := [], alts := [], laidByText := true, laidKinds := [.data, .data, .data], laidTests := true, laidLooks := .later }
def DateSeriesExactCardSaid : Prop := Claim7.holds Tryd.pinned (.plain (OpenSpec.ofChange dateSeriesExactSpec)) dateSeriesExactCard

/-- THE TIED CARD OF 'bullalaw07.DateMoves'. -/
def dateMovesCard : Claim7 := { stood := { row := dateMovesRow, standIns := [], harness := (true, "547462f523625a6791988ee8e94493eee5933808cf758ad0f6ad3f496e208b0f"), looks := false }, kinds := [], alts := [], laidByText := true, laidKinds := [.data, .data, .data], laidTests := true, laidLooks := .later }
def DateMovesCardSaid : Prop := Claim7.holds Tryd.pinned (.plain (OpenSpec.ofChange dateMovesSpec)) dateMovesCard

/-- THE TIED CARD OF 'bullalaw07.DateAdds'. -/
def dateAddsCard : Claim7 := { stood := { row := dateAddsRow, standIns := [], harness := (true, "547462f523625a6791988ee8e94493eee5933808cf758ad0f6ad3f496e208b0f"), looks := false }, kinds := [], alts := [], laidByText := true, laidKinds := [.data, .data, .data], laidTests := true, laidLooks := .later }
def DateAddsCardSaid : Prop := Claim7.holds Tryd.pinned (.plain (OpenSpec.ofChange dateAddsSpec)) dateAddsCard

/-- THE TIED CARD OF 'bullalaw07.DateTraceTexts'. -/
def dateTraceTextsCard : Claim7 := { stood := { row := dateTraceTextsRow, standIns := [], harness := (true, "547462f523625a6791988ee8e94493eee5933808cf758ad0f6ad3f496e208b0f"), looks := false }, kinds := [], alts := [], laidByText := true, laidKinds := [.data, .data, .data], laidTests := true, laidLooks := .later }
def DateTraceTextsCardSaid : Prop := Claim7.holds Tryd.pinned (.plain (OpenSpec.ofChange dateTraceTextsSpec)) dateTraceTextsCard

/-- THE TIED CARD OF 'bullalaw07.DateTraceBack'. -/
def dateTraceBackCard : Claim7 := { stood := { row := dateTraceBackRow, standIns := [], harness := (true, "547462f523625a6791988ee8e94493eee5933808cf758ad0f6ad3f496e208b0f"), looks := false }, kinds := [], alts := [], laidByText := true, laidKinds := [.data, .data, .data], laidTests := true, laidLooks := .later }
def DateTraceBackCardSaid : Prop := Claim7.holds Tryd.pinned (.plain (OpenSpec.ofChange dateTraceBackSpec)) dateTraceBackCard

/-- THE TIED CARD OF 'bullalaw07.DateChecks'. -/
def dateChecksCard : Claim7 := { stood := { row := dateChecksRow, standIns := [], harness := (true, "547462f523625a6791988ee8e94493eee5933808cf758ad0f6ad3f496e208b0f"), looks := false }, kinds := [], alts := [], laidByText := true, laidKinds := [.data, .data, .data], laidTests := true, laidLooks := .later }
def DateChecksCardSaid : Prop := Claim7.holds Tryd.pinned (.plain (OpenSpec.ofChange dateChecksSpec)) dateChecksCard

/-- THE TIED CARD OF 'bullalaw07.DateBack'. -/
def dateBackCard : Claim7 := { stood := { row := dateBackRow, standIns := [], harness := (true, "547462f523625a6791988ee8e94493eee5933808cf758ad0f6ad3f496e208b0f"), looks := false }, kinds := [], alts := [], laidByText := true, laidKinds := [.data, .data, .data], laidTests := true, laidLooks := .later }
def DateBackCardSaid : Prop := Claim7.holds Tryd.pinned (.plain (OpenSpec.ofChange dateBackSpec)) dateBackCard

/-- THE TIED CARD OF 'bullatop.TopDates'. -/
def topDatesCard : Claim7 := { stood := { row := topDatesRow, standIns := [], harness := (true, "547462f523625a6791988ee8e94493eee5933808cf758ad0f6ad3f496e208b0f"), looks := false }, kinds := [], alts := [], laidByText := true, laidKinds := [.data, .data, .data, .data], laidTests := true, laidLooks := .later }
def TopDatesCardSaid : Prop := Claim7.holds Tryd.pinned (.plain (OpenSpec.ofChange topDatesSpec)) topDatesCard

/-- THE TIED CARD OF 'bullalaw07.DateNames'. -/
def dateNamesCard : Claim7 := { stood := { row := dateNamesRow, standIns := [], harness := (true, "547462f523625a6791988ee8e94493eee5933808cf758ad0f6ad3f496e208b0f"), looks := false }, kinds := [], alts := [], laidByText := true, laidKinds := [.data, .data, .data], laidTests := true, laidLooks := .later }
def DateNamesCardSaid : Prop := Claim7.holds Tryd.pinned (.plain (OpenSpec.ofChange dateNamesSpec)) dateNamesCard

/-- THE TIED CARD OF 'bullalaw07.DateLengths'. -/
def dateLengthsCard : Claim7 := { stood := { row := dateLengthsRow, standIns := [], harness := (true, "547462f523625a6791988ee8e94493eee5933808cf758ad0f6ad3f496e208b0f"), looks := false }, kinds := [], alts := [], laidByText := true, laidKinds := [.data, .data, .data], laidTests := true, laidLooks := .later }
def DateLengthsCardSaid : Prop := Claim7.holds Tryd.pinned (.plain (OpenSpec.ofChange dateLengthsSpec)) dateLengthsCard

/-- THE TIED CARD OF 'bullalaw07.DateExtends'. -/
def dateExtendsCard : Claim7 := { stood := { row := dateExtendsRow, standIns := [], harness := (true, "547462f523625a6791988ee8e94493eee5933808cf758ad0f6ad3f496e208b0f"), looks := false }, kinds := [], alts := [], laidByText := true, laidKinds := [.data, .data, .data], laidTests := true, laidLooks := .later }
def DateExtendsCardSaid : Prop := Claim7.holds Tryd.pinned (.plain (OpenSpec.ofChange dateExtendsSpec)) dateExtendsCard

/-- THE TIED CARD OF 'bullalaw07.DateWhole'. -/
def dateWholeCard : Claim7 := { stood := { row := dateWholeRow, standIns := [], harness := (true, "547462f523625a6791988ee8e94493eee5933808cf758ad0f6ad3f496e208b0f"), looks := false }, kinds := [], alts := [], laidByText := true, laidKinds := [.data, .data, .data], laidTests := true, laidLooks := .later }
def DateWholeCardSaid : Prop := Claim7.holds Tryd.pinned (.plain (OpenSpec.ofChange dateWholeSpec)) dateWholeCard

/-- THE TIED CARD OF 'bullalaw07.DateExtendKeeps'. -/
def dateExtendKeepsCard : Claim7 := { stood := { row := dateExtendKeepsRow, standIns := [], harness := (true, "547462f523625a6791988ee8e94493eee5933808cf758ad0f6ad3f496e208b0f"), looks := false }, kinds := [], alts := [], laidByText := true, laidKinds := [.data, .data, .data], laidTests := true, laidLooks := .later }
def DateExtendKeepsCardSaid : Prop := Claim7.holds Tryd.pinned (.plain (OpenSpec.ofChange dateExtendKeepsSpec)) dateExtendKeepsCard

/-- THE SECOND FORM's CARD OF 'bullalaw07.DateSeries'. -/
def dateSeriesUptoCard : Claim7 := { stood := { row := dateSeriesUptoRow, standIns := [], harness := (true, "547462f523625a6791988ee8e94493eee5933808cf758ad0f6ad3f496e208b0f"), looks := false }, kinds := [], alts := [], laidByText := true, laidKinds := [.data, .data, .data], laidTests := true, laidLooks := .later }
def DateSeriesUptoCardSaid : Prop := Claim7.holds Tryd.pinned (.plain (OpenSpec.upto dateSeriesSpec)) dateSeriesUptoCard

/-- THE SECOND FORM's CARD OF 'bullalaw07.DateOrder'. -/
def dateOrderUptoCard : Claim7 := { stood := { row := dateOrderUptoRow, standIns := [], harness := (true, "547462f523625a6791988ee8e94493eee5933808cf758ad0f6ad3f496e208b0f"), looks := false }, kinds := [], alts := [], laidByText := true, laidKinds := [.data, .data, .data], laidTests := true, laidLooks := .later }
def DateOrderUptoCardSaid : Prop := Claim7.holds Tryd.pinned (.plain (OpenSpec.upto dateOrderSpec)) dateOrderUptoCard

/-- THE SECOND FORM's CARD OF 'bullalaw07.DateTraceWidens'. -/
def dateTraceWidensUptoCard : Claim7 := { stood := { row := dateTraceWidensUptoRow, standIns := [], harness := (true, "547462f523625a6791988ee8e94493eee5933808cf758ad0f6ad3f496e208b0f"), looks := false }, kinds := [], alts := [], laidByText := true, laidKinds := [.data, .data, .data], laidTests := true, laidLooks := .later }
def DateTraceWidensUptoCardSaid : Prop := Claim7.holds Tryd.pinned (.plain (OpenSpec.upto dateTraceWidensSpec)) dateTraceWidensUptoCard

/-- THE SECOND FORM's CARD OF 'bullalaw07.DateSeriesNarrows'. -/
def dateSeriesNarrowsUptoCard : Claim7 := { stood := { row := dateSeriesNarrowsUptoRow, standIns := [], harness := (true, "547462f523625a6791988ee8e94493eee5933808cf758ad0f6ad3f496e208b0f"), looks := false }, kinds := [], alts := [], laidByText := true, laidKinds := [.data, .data, .data], laidTests := true, laidLooks := .later }
def DateSeriesNarrowsUptoCardSaid : Prop := Claim7.holds Tryd.pinned (.plain (OpenSpec.upto dateSeriesNarrowsSpec)) dateSeriesNarrowsUptoCard

/-- THE SECOND FORM's CARD OF 'bullalaw07.DateTraceFits'. -/
def dateTraceFitsUptoCard : Claim7 := { stood := { row := dateTraceFitsUptoRow, standIns := [], harness := (true, "547462f523625a6791988ee8e94493eee5933808cf758ad0f6ad3f496e208b0f"), looks := false }, kinds := [], alts := [], laidByText := true, laidKinds := [.data, .data, .data], laidTests := true, laidLooks := .later }
def DateTraceFitsUptoCardSaid : Prop := Claim7.holds Tryd.pinned (.plain (OpenSpec.upto dateTraceFitsSpec)) dateTraceFitsUptoCard

/-- THE SECOND FORM's CARD OF 'bullalaw07.DateSpansFit'. -/
def dateSpansFitUptoCard : Claim7 := { stood := { row := dateSpansFitUptoRow, standIns := [], harness := (true, "547462f523625a6791988ee8e94493eee5933808cf758ad0f6ad3f496e208b0f"), looks := false }, kinds := [], alts := [], laidByText := true, laidKinds := [.data, .data, .data], laidTests := true, laidLooks := .later }
def DateSpansFitUptoCardSaid : Prop := Claim7.holds Tryd.pinned (.plain (OpenSpec.upto dateSpansFitSpec)) dateSpansFitUptoCard

/-- THE SECOND FORM's CARD OF 'bullalaw07.DateSeriesHolds'. -/
def dateSeriesHoldsUptoCard : Claim7 := { stood := { row := dateSeriesHoldsUptoRow, standIns := [], harness := (true, "547462f523625a6791988ee8e94493eee5933808cf758ad0f6ad3f496e208b0f"), looks := false }, kinds := [], alts := [], laidByText := true, laidKinds := [.data, .data, .data], laidTests := true, laidLooks := .later }
def DateSeriesHoldsUptoCardSaid : Prop := Claim7.holds Tryd.pinned (.plain (OpenSpec.upto dateSeriesHoldsSpec)) dateSeriesHoldsUptoCard

/-- THE SECOND FORM's CARD OF 'bullalaw07.DateSeriesExact'. -/
def dateSeriesExactUptoCard : Claim7 := { stood := { row := dateSeriesExactUptoRow, standIns := [], harness := (true, "547462f523625a6791988ee8e94493eee5933808cf758ad0f6ad3f496e208b0f"), looks := false }, kinds := [], alts := [], laidByText := true, laidKinds := [.data, .data, .data], laidTests := true, laidLooks := .later }
def DateSeriesExactUptoCardSaid : Prop := Claim7.holds Tryd.pinned (.plain (OpenSpec.upto dateSeriesExactSpec)) dateSeriesExactUptoCard

/-- THE SECOND FORM's CARD OF 'bullalaw07.DateMoves'. -/
def dateMovesUptoCard : Claim7 := { stood := { row := dateMovesUptoRow, standIns := [], harness := (true, "547462f523625a6791988ee8e94493eee5933808cf758ad0f6ad3f496e208b0f"), looks := false }, kinds := [], alts := [], laidByText := true, laidKinds := [.data, .data, .data], laidTests := true, laidLooks := .later }
def DateMovesUptoCardSaid : Prop := Claim7.holds Tryd.pinned (.plain (OpenSpec.upto dateMovesSpec)) dateMovesUptoCard

/-- THE SECOND FORM's CARD OF 'bullalaw07.DateAdds'. -/
def dateAddsUptoCard : Claim7 := { stood := { row := dateAddsUptoRow, standIns := [], harness := (true, "547462f523625a6791988ee8e94493eee5933808cf758ad0f6ad3f496e208b0f"), looks := false }, kinds := [], alts := [], laidByText := true, laidKinds := [.data, .data, .data], laidTests := true, laidLooks := .later }
def DateAddsUptoCardSaid : Prop := Claim7.holds Tryd.pinned (.plain (OpenSpec.upto dateAddsSpec)) dateAddsUptoCard

/-- THE SECOND FORM's CARD OF 'bullalaw07.DateTraceTexts'. -/
def dateTraceTextsUptoCard : Claim7 := { stood := { row := dateTraceTextsUptoRow, standIns := [], harness := (true, "547462f523625a6791988ee8e94493eee5933808cf758ad0f6ad3f496e208b0f"), looks := false }, kinds := [], alts := [], laidByText := true, laidKinds := [.data, .data, .data], laidTests := true, laidLooks := .later }
def DateTraceTextsUptoCardSaid : Prop := Claim7.holds Tryd.pinned (.plain (OpenSpec.upto dateTraceTextsSpec)) dateTraceTextsUptoCard

/-- THE SECOND FORM's CARD OF 'bullalaw07.DateTraceBack'. -/
def dateTraceBackUptoCard : Claim7 := { stood := { row := dateTraceBackUptoRow, standIns := [], harness := (true, "547462f523625a6791988ee8e94493eee5933808cf758ad0f6ad3f496e208b0f"), looks := false }, kinds := [], alts := [], laidByText := true, laidKinds := [.data, .data, .data], laidTests := true, laidLooks := .later }
def DateTraceBackUptoCardSaid : Prop := Claim7.holds Tryd.pinned (.plain (OpenSpec.upto dateTraceBackSpec)) dateTraceBackUptoCard

/-- THE SECOND FORM's CARD OF 'bullalaw07.DateChecks'. -/
def dateChecksUptoCard : Claim7 := { stood := { row := dateChecksUptoRow, standIns := [], harness := (true, "547462f523625a6791988ee8e94493eee5933808cf758ad0f6ad3f496e208b0f"), looks := false }, kinds := [], alts := [], laidByText := true, laidKinds := [.data, .data, .data], laidTests := true, laidLooks := .later }
def DateChecksUptoCardSaid : Prop := Claim7.holds Tryd.pinned (.plain (OpenSpec.upto dateChecksSpec)) dateChecksUptoCard

/-- THE SECOND FORM's CARD OF 'bullalaw07.DateBack'. -/
def dateBackUptoCard : Claim7 := { stood := { row := dateBackUptoRow, standIns := [], harness := (true, "547462f523625a6791988ee8e94493eee5933808cf758ad0f6ad3f496e208b0f"), looks := false }, kinds := [], alts := [], laidByText := true, laidKinds := [.data, .data, .data], laidTests := true, laidLooks := .later }
def DateBackUptoCardSaid : Prop := Claim7.holds Tryd.pinned (.plain (OpenSpec.upto dateBackSpec)) dateBackUptoCard

/-- THE SECOND FORM's CARD OF 'bullatop.TopDates'. -/
def topDatesUptoCard : Claim7 := { stood := { row := topDatesUptoRow, standIns := [], harness := (true, "547462f523625a6791988ee8e94493eee5933808cf758ad0f6ad3f496e208b0f"), looks := false }, kinds := [], alts := [], laidByText := true, laidKinds := [.data, .data, .data, .data], laidTests := true, laidLooks := .later }
def TopDatesUptoCardSaid : Prop := Claim7.holds Tryd.pinned (.plain (OpenSpec.upto topDatesSpec)) topDatesUptoCard

/-- THE SECOND FORM's CARD OF 'bullalaw07.DateNames'. -/
def dateNamesUptoCard : Claim7 := { stood := { row := dateNamesUptoRow, standIns := [], harness := (true, "547462f523625a6791988ee8e94493eee5933808cf758ad0f6ad3f496e208b0f"), looks := false }, kinds := [], alts := [], laidByText := true, laidKinds := [.data, .data, .data], laidTests := true, laidLooks := .later }
def DateNamesUptoCardSaid : Prop := Claim7.holds Tryd.pinned (.plain (OpenSpec.upto dateNamesSpec)) dateNamesUptoCard

/-- THE SECOND FORM's CARD OF 'bullalaw07.DateLengths'. -/
def dateLengthsUptoCard : Claim7 := { stood := { row := dateLengthsUptoRow, standIns := [], harness := (true, "547462f523625a6791988ee8e94493eee5933808cf758ad0f6ad3f496e208b0f"), looks := false }, kinds := [], alts := [], laidByText := true, laidKinds := [.data, .data, .data], laidTests := true, laidLooks := .later }
def DateLengthsUptoCardSaid : Prop := Claim7.holds Tryd.pinned (.plain (OpenSpec.upto dateLengthsSpec)) dateLengthsUptoCard

/-- THE SECOND FORM's CARD OF 'bullalaw07.DateExtends'. -/
def dateExtendsUptoCard : Claim7 := { stood := { row := dateExtendsUptoRow, standIns := [], harness := (true, "547462f523625a6791988ee8e94493eee5933808cf758ad0f6ad3f496e208b0f"), looks := false }, kinds := [], alts := [], laidByText := true, laidKinds := [.data, .data, .data], laidTests := true, laidLooks := .later }
def DateExtendsUptoCardSaid : Prop := Claim7.holds Tryd.pinned (.plain (OpenSpec.upto dateExtendsSpec)) dateExtendsUptoCard

/-- THE SECOND FORM's CARD OF 'bullalaw07.DateWhole'. -/
def dateWholeUptoCard : Claim7 := { stood := { row := dateWholeUptoRow, standIns := [], harness := (true, "547462f523625a6791988ee8e94493eee5933808cf758ad0f6ad3f496e208b0f"), looks := false }, kinds := [], alts := [], laidByText := true, laidKinds := [.data, .data, .data], laidTests := true, laidLooks := .later }
def DateWholeUptoCardSaid : Prop := Claim7.holds Tryd.pinned (.plain (OpenSpec.upto dateWholeSpec)) dateWholeUptoCard

/-- THE SECOND FORM's CARD OF 'bullalaw07.DateExtendKeeps'. -/
def dateExtendKeepsUptoCard : Claim7 := { stood := { row := dateExtendKeepsUptoRow, standIns := [], harness := (true, "547462f523625a6791988ee8e94493eee5933808cf758ad0f6ad3f496e208b0f"), looks := false }, kinds := [], alts := [], laidByText := true, laidKinds := [.data, .data, .data], laidTests := true, laidLooks := .later }
def DateExtendKeepsUptoCardSaid : Prop := Claim7.holds Tryd.pinned (.plain (OpenSpec.upto dateExtendKeepsSpec)) dateExtendKeepsUptoCard
end Rows
end Go.Proofs.YtfchchmmjabjnaaDoor
