/-
  NARROWER THAN 'FOR EVERY INPUT', by the rows' own cells (each row's printed sentence says how): LedgerInterestPays: laid · LedgerWorkFewest: laid · LedgerPeriodChecks: laid · LedgerLoanOwed: laid · LedgerWorkNeeds: laid · LedgerPeriodCarries: laid · LedgerPeriodDivides: laid · LedgerPeriodJoins: laid.
  DERIVED. THE GIVEN ROWS OF THIS SEAT. 8 by the template 'for every input the law returns true; each argument reads behind the call as it read before'; 0 by the template 'total and deterministic' (their statements: YthmjpbafbohelaaGreatDoorTotals.lean).
  GIVEN WITH THE SEED: the statements are not yours to turn. If you find one false, say at which input.
  Laid BY PROGRAM, IN A SANDBOX (cutbox-rows.mjs): the forced cells as the released guide's own fill.sh prints them over the translation 540128275305c202… (all of the seat's roots in one cut). By AI agents, Wed Nov 11 2026. No macro, syntax, notation, axiom, sorry.
-/
import Derived.Test.YthmjpbafbohelaaGreatDoorChecked
import GoSem.Claim
import GoSem.ClaimJoined
import GoSem.ClaimMapViews
import Derived.JoinedTies
import Derived.KernelRfl
namespace Go.Proofs.YthmjpbafbohelaaGreatDoor
/- THE CELL 'sum', in the pinned program and in every row, IS THE sha256 OF THE DUMP (.gsa) THAT YthmjpbafbohelaaGreatDoorProg.lean LOADS. Nothing in Lean hashes anything: it is a label: what it is worth is what the hold of that sum in a sandbox is worth. -/
noncomputable def Tryz.pinned : Pinned := { name := "ythmjpbafbohelaagreatdoor", sum := "540128275305c202c8f797dd3742afc33b5eb06ad07c75dbf92a717dc883f7e2", checked := Tryz.checked }
namespace Rows
def none {H : Type} : Left H := { results := [], args := [] }

/- WHAT THE LISTED PACKAGE-LEVEL VARIABLES READ AS WHEN THE CALL BEGINS. Each datum BY PROGRAM (the guide's laid-datum.mjs) off the statement by which the dump's own 'gosem.cut.vars' lays the variable. In a bare row this is a premise. The card (YthmjpbafbohelaaGreatDoorCards.lean) ties it to the program's text. -/
def laid_bulla_metro_zero {H : Type} : DataW H := .agg [.lit (.int .i64 0), .lit (.int .i64 1)]

/-- 'bullalaw08.LedgerInterestPays': WHATEVER THE INPUT: true; the input reads as it did. -/
def ledgerInterestPaysSpec : ChangeSpec := { name := "ledgerInterestPays", fn := fun _ => fun
  | [d1, d2, d3] => { results := [.lit (.bool true)], args := [d1, d2, d3] }
  | _ => none }
def ledgerInterestPaysRow : OpenClaim := { program := "ythmjpbafbohelaagreatdoor", sum := "540128275305c202c8f797dd3742afc33b5eb06ad07c75dbf92a717dc883f7e2", func := "bulla/bullalaw08.LedgerInterestPays", spec := "ledgerInterestPays", unfollowed := true, recurses := true, named := ["bulla/metro.zero"], plainKeys := false, apart := false, laid := [("bulla/metro.zero", laid_bulla_metro_zero)] }
def LedgerInterestPaysSaid : Prop := ledgerInterestPaysRow.holds Tryz.pinned (OpenSpec.ofChange ledgerInterestPaysSpec)

/-- ITS FALSE NEIGHBOUR: 'it returns false'. Refute it at one input. -/
def ledgerInterestPaysWrong : ChangeSpec := { name := "ledgerInterestPays", fn := fun _ => fun
  | [d1, d2, d3] => { results := [.lit (.bool false)], args := [d1, d2, d3] }
  | _ => none }
def LedgerInterestPaysWrongFalsely : Prop := ledgerInterestPaysRow.holds Tryz.pinned (OpenSpec.ofChange ledgerInterestPaysWrong)

/-- 'bullalaw08.LedgerWorkFewest': WHATEVER THE INPUT: true; the input reads as it did. -/
def ledgerWorkFewestSpec : ChangeSpec := { name := "ledgerWorkFewest", fn := fun _ => fun
  | [d1, d2, d3] => { results := [.lit (.bool true)], args := [d1, d2, d3] }
  | _ => none }
def ledgerWorkFewestRow : OpenClaim := { program := "ythmjpbafbohelaagreatdoor", sum := "540128275305c202c8f797dd3742afc33b5eb06ad07c75dbf92a717dc883f7e2", func := "bulla/bullalaw08.LedgerWorkFewest", spec := "ledgerWorkFewest", unfollowed := true, recurses := true, named := ["bulla/metro.zero"], plainKeys := false, apart := false, laid := [("bulla/metro.zero", laid_bulla_metro_zero)] }
def LedgerWorkFewestSaid : Prop := ledgerWorkFewestRow.holds Tryz.pinned (OpenSpec.ofChange ledgerWorkFewestSpec)

/-- ITS FALSE NEIGHBOUR: 'it returns false'. Refute it at one input. -/
def ledgerWorkFewestWrong : ChangeSpec := { name := "ledgerWorkFewest", fn := fun _ => fun
  | [d1, d2, d3] => { results := [.lit (.bool false)], args := [d1, d2, d3] }
  | _ => none }
def LedgerWorkFewestWrongFalsely : Prop := ledgerWorkFewestRow.holds Tryz.pinned (OpenSpec.ofChange ledgerWorkFewestWrong)

/-- 'bullalaw08.LedgerPeriodChecks': WHATEVER THE INPUT: true; the input reads as it did. -/
def ledgerPeriodChecksSpec : ChangeSpec := { name := "ledgerPeriodChecks", fn := fun _ => fun
  | [d1, d2] => { results := [.lit (.bool true)], args := [d1, d2] }
  | _ => none }
def ledgerPeriodChecksRow : OpenClaim := { program := "ythmjpbafbohelaagreatdoor", sum := "540128275305c202c8f797dd3742afc33b5eb06ad07c75dbf92a717dc883f7e2", func := "bulla/bullalaw08.LedgerPeriodChecks", spec := "ledgerPeriodChecks", unfollowed := true, recurses := true, named := ["bulla/metro.zero"], plainKeys := false, apart := false, laid := [("bulla/metro.zero", laid_bulla_metro_zero)] }
def LedgerPeriodChecksSaid : Prop := ledgerPeriodChecksRow.holds Tryz.pinned (OpenSpec.ofChange ledgerPeriodChecksSpec)

/-- ITS FALSE NEIGHBOUR: 'it returns false'. Refute it at one input. -/
def ledgerPeriodChecksWrong : ChangeSpec := { name := "ledgerPeriodChecks", fn := fun _ => fun
  | [d1, d2] => { results := [.lit (.bool false)], args := [d1, d2] }
  | _ => none }
def LedgerPeriodChecksWrongFalsely : Prop := ledgerPeriodChecksRow.holds Tryz.pinned (OpenSpec.ofChange ledgerPeriodChecksWrong)

/-- 'bullalaw08.LedgerLoanOwed': WHATEVER THE INPUT: true; the input reads as it did. -/
def ledgerLoanOwedSpec : ChangeSpec := { name := "ledgerLoanOwed", fn := fun _ => fun
  | [d1, d2] => { results := [.lit (.bool true)], args := [d1, d2] }
  | _ => none }
def ledgerLoanOwedRow : OpenClaim := { program := "ythmjpbafbohelaagreatdoor", sum := "540128275305c202c8f797dd3742afc33b5eb06ad07c75dbf92a717dc883f7e2", func := "bulla/bullalaw08.LedgerLoanOwed", spec := "ledgerLoanOwed", unfollowed := true, recurses := true, named := ["bulla/metro.zero"], plainKeys := false, apart := false, laid := [("bulla/metro.zero", laid_bulla_metro_zero)] }
def LedgerLoanOwedSaid : Prop := ledgerLoanOwedRow.holds Tryz.pinned (OpenSpec.ofChange ledgerLoanOwedSpec)

/-- ITS FALSE NEIGHBOUR: 'it returns false'. Refute it at one input. -/
def ledgerLoanOwedWrong : ChangeSpec := { name := "ledgerLoanOwed", fn := fun _ => fun
  | [d1, d2] => { results := [.lit (.bool false)], args := [d1, d2] }
  | _ => none }
def LedgerLoanOwedWrongFalsely : Prop := ledgerLoanOwedRow.holds Tryz.pinned (OpenSpec.ofChange ledgerLoanOwedWrong)

/-- 'bullalaw08.LedgerWorkNeeds': WHATEVER THE INPUT: true; the input reads as it did. -/
def ledgerWorkNeedsSpec : ChangeSpec := { name := "ledgerWorkNeeds", fn := fun _ => fun
  | [d1, d2, d3] => { results := [.lit (.bool true)], args := [d1, d2, d3] }
  | _ => none }
def ledgerWorkNeedsRow : OpenClaim := { program := "ythmjpbafbohelaagreatdoor", sum := "540128275305c202c8f797dd3742afc33b5eb06ad07c75dbf92a717dc883f7e2", func := "bulla/bullalaw08.LedgerWorkNeeds", spec := "ledgerWorkNeeds", unfollowed := true, recurses := true, named := ["bulla/metro.zero"], plainKeys := false, apart := false, laid := [("bulla/metro.zero", laid_bulla_metro_zero)] }
def LedgerWorkNeedsSaid : Prop := ledgerWorkNeedsRow.holds Tryz.pinned (OpenSpec.ofChange ledgerWorkNeedsSpec)

/-- ITS FALSE NEIGHBOUR: 'it returns false'. Refute it at one input. -/
def ledgerWorkNeedsWrong : ChangeSpec := { name := "ledgerWorkNeeds", fn := fun _ => fun
  | [d1, d2, d3] => { results := [.lit (.bool false)], args := [d1, d2, d3] }
  | _ => none }
def LedgerWorkNeedsWrongFalsely : Prop := ledgerWorkNeedsRow.holds Tryz.pinned (OpenSpec.ofChange ledgerWorkNeedsWrong)

/-- 'bullalaw08.LedgerPeriodCarries': WHATEVER THE INPUT: true; the input reads as it did. -/
def ledgerPeriodCarriesSpec : ChangeSpec := { name := "ledgerPeriodCarries", fn := fun _ => fun
  | [d1, d2] => { results := [.lit (.bool true)], args := [d1, d2] }
  | _ => none }
def ledgerPeriodCarriesRow : OpenClaim := { program := "ythmjpbafbohelaagreatdoor", sum := "540128275305c202c8f797dd3742afc33b5eb06ad07c75dbf92a717dc883f7e2", func := "bulla/bullalaw08.LedgerPeriodCarries", spec := "ledgerPeriodCarries", unfollowed := true, recurses := true, named := ["bulla/metro.zero"], plainKeys := false, apart := false, laid := [("bulla/metro.zero", laid_bulla_metro_zero)] }
def LedgerPeriodCarriesSaid : Prop := ledgerPeriodCarriesRow.holds Tryz.pinned (OpenSpec.ofChange ledgerPeriodCarriesSpec)

/-- ITS FALSE NEIGHBOUR: 'it returns false'. Refute it at one input. -/
def ledgerPeriodCarriesWrong : ChangeSpec := { name := "ledgerPeriodCarries", fn := fun _ => fun
  | [d1, d2] => { results := [.lit (.bool false)], args := [d1, d2] }
  | _ => none }
def LedgerPeriodCarriesWrongFalsely : Prop := ledgerPeriodCarriesRow.holds Tryz.pinned (OpenSpec.ofChange ledgerPeriodCarriesWrong)

/-- 'bullalaw08.LedgerPeriodDivides': WHATEVER THE INPUT: true; the input reads as it did. -/
def ledgerPeriodDividesSpec : ChangeSpec := { name := "ledgerPeriodDivides", fn := fun _ => fun
  | [d1, d2, d3] => { results := [.lit (.bool true)], args := [d1, d2, d3] }
  | _ => none }
def ledgerPeriodDividesRow : OpenClaim := { program := "ythmjpbafbohelaagreatdoor", sum := "540128275305c202c8f797dd3742afc33b5eb06ad07c75dbf92a717dc883f7e2", func := "bulla/bullalaw08.LedgerPeriodDivides", spec := "ledgerPeriodDivides", unfollowed := true, recurses := true, named := ["bulla/metro.zero"], plainKeys := false, apart := false, laid := [("bulla/metro.zero", laid_bulla_metro_zero)] }
def LedgerPeriodDividesSaid : Prop := ledgerPeriodDividesRow.holds Tryz.pinned (OpenSpec.ofChange ledgerPeriodDividesSpec)

/-- ITS FALSE NEIGHBOUR: 'it returns false'. Refute it at one input. -/
def ledgerPeriodDividesWrong : ChangeSpec := { name := "ledgerPeriodDivides", fn := fun _ => fun
  | [d1, d2, d3] => { results := [.lit (.bool false)], args := [d1, d2, d3] }
  | _ => none }
def LedgerPeriodDividesWrongFalsely : Prop := ledgerPeriodDividesRow.holds Tryz.pinned (OpenSpec.ofChange ledgerPeriodDividesWrong)

/-- 'bullalaw08.LedgerPeriodJoins': WHATEVER THE INPUT: true; the input reads as it did. -/
def ledgerPeriodJoinsSpec : ChangeSpec := { name := "ledgerPeriodJoins", fn := fun _ => fun
  | [d1, d2, d3] => { results := [.lit (.bool true)], args := [d1, d2, d3] }
  | _ => none }
def ledgerPeriodJoinsRow : OpenClaim := { program := "ythmjpbafbohelaagreatdoor", sum := "540128275305c202c8f797dd3742afc33b5eb06ad07c75dbf92a717dc883f7e2", func := "bulla/bullalaw08.LedgerPeriodJoins", spec := "ledgerPeriodJoins", unfollowed := true, recurses := true, named := ["bulla/metro.zero"], plainKeys := false, apart := false, laid := [("bulla/metro.zero", laid_bulla_metro_zero)] }
def LedgerPeriodJoinsSaid : Prop := ledgerPeriodJoinsRow.holds Tryz.pinned (OpenSpec.ofChange ledgerPeriodJoinsSpec)

/-- ITS FALSE NEIGHBOUR: 'it returns false'. Refute it at one input. -/
def ledgerPeriodJoinsWrong : ChangeSpec := { name := "ledgerPeriodJoins", fn := fun _ => fun
  | [d1, d2, d3] => { results := [.lit (.bool false)], args := [d1, d2, d3] }
  | _ => none }
def LedgerPeriodJoinsWrongFalsely : Prop := ledgerPeriodJoinsRow.holds Tryz.pinned (OpenSpec.ofChange ledgerPeriodJoinsWrong)

/- THE SECOND FORM. 'bulk': how many values and letters a reading holds, each counted each time it is reached (what is shared counts as often as it is met; a slice's spare places count too). A statement '..UptoSaid' is the law's where the arguments, and the package variables that the reading takes, are together of bulk at most 1048576: NARROWER than '..Said'. Prove '..Said' where nothing that the law and all that it calls make is longer than what came in: it says more and counts as full. Else prove '..UptoSaid'. A law counts once. -/
mutual
def uptoBulk {H : Type} : DataW H → Nat
  | .lit (.string bytes) => bytes.length + 1
  | .lit _ => 1
  | .nil => 1
  | .ptr d => uptoBulk d + 1
  | .slice elems spare => uptoBulkAll elems + uptoBulkAll spare + 1
  | .agg parts => uptoBulkAll parts + 1
  | .iface _ d => uptoBulk d + 1
  | .map entries => uptoBulkEntries entries + 1
  | .held _ => 1
def uptoBulkAll {H : Type} : List (DataW H) → Nat
  | [] => 0
  | d :: r => uptoBulk d + uptoBulkAll r
def uptoBulkEntries {H : Type} : List (Lit × DataW H) → Nat
  | [] => 0
  | x :: r => uptoBulkEntry x + uptoBulkEntries r
def uptoBulkEntry {H : Type} : Lit × DataW H → Nat
  | (.string bytes, d) => bytes.length + uptoBulk d + 1
  | (_, d) => uptoBulk d + 1
 end
def uptoSmall : (H : Type) → List (DataW H) → Bool := fun _ ds => decide (uptoBulkAll ds ≤ 1048576)
def OpenSpec.upto (s : _root_.Go.ChangeSpec) : _root_.Go.OpenSpec := { _root_.Go.OpenSpec.ofChange s with cond := some uptoSmall }

/-- 'bullalaw08.LedgerInterestPays', WHERE WHAT IT READS IS OF BULK AT MOST 1048576: true; the input reads as it did. -/
def ledgerInterestPaysUptoRow : OpenClaim := { program := "ythmjpbafbohelaagreatdoor", sum := "540128275305c202c8f797dd3742afc33b5eb06ad07c75dbf92a717dc883f7e2", func := "bulla/bullalaw08.LedgerInterestPays", spec := "ledgerInterestPays", unfollowed := true, recurses := true, named := ["bulla/metro.zero"], plainKeys := false, apart := false, laid := [("bulla/metro.zero", laid_bulla_metro_zero)], narrowed := true }
def LedgerInterestPaysUptoSaid : Prop := ledgerInterestPaysUptoRow.holds Tryz.pinned (OpenSpec.upto ledgerInterestPaysSpec)

/-- 'bullalaw08.LedgerWorkFewest', WHERE WHAT IT READS IS OF BULK AT MOST 1048576: true; the input reads as it did. -/
def ledgerWorkFewestUptoRow : OpenClaim := { program := "ythmjpbafbohelaagreatdoor", sum := "540128275305c202c8f797dd3742afc33b5eb06ad07c75dbf92a717dc883f7e2", func := "bulla/bullalaw08.LedgerWorkFewest", spec := "ledgerWorkFewest", unfollowed := true, recurses := true, named := ["bulla/metro.zero"], plainKeys := false, apart := false, laid := [("bulla/metro.zero", laid_bulla_metro_zero)], narrowed := true }
def LedgerWorkFewestUptoSaid : Prop := ledgerWorkFewestUptoRow.holds Tryz.pinned (OpenSpec.upto ledgerWorkFewestSpec)

/-- 'bullalaw08.LedgerPeriodChecks', WHERE WHAT IT READS IS OF BULK AT MOST 1048576: true; the input reads as it did. -/
def ledgerPeriodChecksUptoRow : OpenClaim := { program := "ythmjpbafbohelaagreatdoor", sum := "540128275305c202c8f797dd3742afc33b5eb06ad07c75dbf92a717dc883f7e2", func := "bulla/bullalaw08.LedgerPeriodChecks", spec := "ledgerPeriodChecks", unfollowed := true, recurses := true, named := ["bulla/metro.zero"], plainKeys := false, apart := false, laid := [("bulla/metro.zero", laid_bulla_metro_zero)], narrowed := true }
def LedgerPeriodChecksUptoSaid : Prop := ledgerPeriodChecksUptoRow.holds Tryz.pinned (OpenSpec.upto ledgerPeriodChecksSpec)

/-- 'bullalaw08.LedgerLoanOwed', WHERE WHAT IT READS IS OF BULK AT MOST 1048576: true; the input reads as it did. -/
def ledgerLoanOwedUptoRow : OpenClaim := { program := "ythmjpbafbohelaagreatdoor", sum := "540128275305c202c8f797dd3742afc33b5eb06ad07c75dbf92a717dc883f7e2", func := "bulla/bullalaw08.LedgerLoanOwed", spec := "ledgerLoanOwed", unfollowed := true, recurses := true, named := ["bulla/metro.zero"], plainKeys := false, apart := false, laid := [("bulla/metro.zero", laid_bulla_metro_zero)], narrowed := true }
def LedgerLoanOwedUptoSaid : Prop := ledgerLoanOwedUptoRow.holds Tryz.pinned (OpenSpec.upto ledgerLoanOwedSpec)

/-- 'bullalaw08.LedgerWorkNeeds', WHERE WHAT IT READS IS OF BULK AT MOST 1048576: true; the input reads as it did. -/
def ledgerWorkNeedsUptoRow : OpenClaim := { program := "ythmjpbafbohelaagreatdoor", sum := "540128275305c202c8f797dd3742afc33b5eb06ad07c75dbf92a717dc883f7e2", func := "bulla/bullalaw08.LedgerWorkNeeds", spec := "ledgerWorkNeeds", unfollowed := true, recurses := true, named := ["bulla/metro.zero"], plainKeys := false, apart := false, laid := [("bulla/metro.zero", laid_bulla_metro_zero)], narrowed := true }
def LedgerWorkNeedsUptoSaid : Prop := ledgerWorkNeedsUptoRow.holds Tryz.pinned (OpenSpec.upto ledgerWorkNeedsSpec)

/-- 'bullalaw08.LedgerPeriodCarries', WHERE WHAT IT READS IS OF BULK AT MOST 1048576: true; the input reads as it did. -/
def ledgerPeriodCarriesUptoRow : OpenClaim := { program := "ythmjpbafbohelaagreatdoor", sum := "540128275305c202c8f797dd3742afc33b5eb06ad07c75dbf92a717dc883f7e2", func := "bulla/bullalaw08.LedgerPeriodCarries", spec := "ledgerPeriodCarries", unfollowed := true, recurses := true, named := ["bulla/metro.zero"], plainKeys := false, apart := false, laid := [("bulla/metro.zero", laid_bulla_metro_zero)], narrowed := true }
def LedgerPeriodCarriesUptoSaid : Prop := ledgerPeriodCarriesUptoRow.holds Tryz.pinned (OpenSpec.upto ledgerPeriodCarriesSpec)

/-- 'bullalaw08.LedgerPeriodDivides', WHERE WHAT IT READS IS OF BULK AT MOST 1048576: true; the input reads as it did. -/
def ledgerPeriodDividesUptoRow : OpenClaim := { program := "ythmjpbafbohelaagreatdoor", sum := "540128275305c202c8f797dd3742afc33b5eb06ad07c75dbf92a717dc883f7e2", func := "bulla/bullalaw08.LedgerPeriodDivides", spec := "ledgerPeriodDivides", unfollowed := true, recurses := true, named := ["bulla/metro.zero"], plainKeys := false, apart := false, laid := [("bulla/metro.zero", laid_bulla_metro_zero)], narrowed := true }
def LedgerPeriodDividesUptoSaid : Prop := ledgerPeriodDividesUptoRow.holds Tryz.pinned (OpenSpec.upto ledgerPeriodDividesSpec)

/-- 'bullalaw08.LedgerPeriodJoins', WHERE WHAT IT READS IS OF BULK AT MOST 1048576: true; the input reads as it did. -/
def ledgerPeriodJoinsUptoRow : OpenClaim := { program := "ythmjpbafbohelaagreatdoor", sum := "540128275305c202c8f797dd3742afc33b5eb06ad07c75dbf92a717dc883f7e2", func := "bulla/bullalaw08.LedgerPeriodJoins", spec := "ledgerPeriodJoins", unfollowed := true, recurses := true, named := ["bulla/metro.zero"], plainKeys := false, apart := false, laid := [("bulla/metro.zero", laid_bulla_metro_zero)], narrowed := true }
def LedgerPeriodJoinsUptoSaid : Prop := ledgerPeriodJoinsUptoRow.holds Tryz.pinned (OpenSpec.upto ledgerPeriodJoinsSpec)

end Rows
end Go.Proofs.YthmjpbafbohelaaGreatDoor
