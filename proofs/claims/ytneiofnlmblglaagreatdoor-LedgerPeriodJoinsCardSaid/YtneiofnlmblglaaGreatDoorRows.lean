/-
  NARROWER THAN 'FOR EVERY INPUT', by the rows' own cells (each row's printed sentence says how): LedgerPeriodChecks: laid · LedgerPeriodCarries: laid · LedgerRationsGiven: laid · LedgerPeriodDivides: laid · LedgerPeriodJoins: laid.
  DERIVED. THE GIVEN ROWS OF THIS SEAT. 5 by the template 'for every input the law returns true; each argument reads behind the call as it read before'; 0 by the template 'total and deterministic' (their statements: YtneiofnlmblglaaGreatDoorTotals.lean).
  GIVEN WITH THE SEED: the statements are not yours to turn. If you find one false, say at which input.
  Laid BY PROGRAM, IN A SANDBOX (cutbox-rows.mjs): the forced cells as the released guide's own fill.sh prints them over the translation 5e2d07da79b59ac5… (all of the seat's roots in one cut). By AI agents, Wed Nov 11 2026. No macro, syntax, notation, axiom, sorry.
-/
import Derived.Test.YtneiofnlmblglaaGreatDoorChecked
import GoSem.Claim
import GoSem.ClaimJoined
import GoSem.ClaimMapViews
import Derived.JoinedTies
import Derived.KernelRfl
namespace Go.Proofs.YtneiofnlmblglaaGreatDoor
/- THE CELL 'sum', in the pinned program and in every row, IS THE sha256 OF THE DUMP (.gsa) THAT YtneiofnlmblglaaGreatDoorProg.lean LOADS. Nothing in Lean hashes anything: it is a label: what it is worth is what the hold of that sum in a sandbox is worth. -/
noncomputable def Tryz.pinned : Pinned := { name := "ytneiofnlmblglaagreatdoor", sum := "5e2d07da79b59ac555d24295ff8a401de258f49134b5d8f814cad3d2ada082bc", checked := Tryz.checked }
namespace Rows
def none {H : Type} : Left H := { results := [], args := [] }

/- WHAT THE LISTED PACKAGE-LEVEL VARIABLES READ AS WHEN THE CALL BEGINS. Each datum BY PROGRAM (the guide's laid-datum.mjs) off the statement by which the dump's own 'gosem.cut.vars' lays the variable. In a bare row this is a premise. The card (YtneiofnlmblglaaGreatDoorCards.lean) ties it to the program's text. -/
def laid_bulla_metro_zero {H : Type} : DataW H := .agg [.lit (.int .i64 0), .lit (.int .i64 1)]

/-- 'bullalaw08.LedgerPeriodChecks': WHATEVER THE INPUT: true; the input reads as it did. -/
def ledgerPeriodChecksSpec : ChangeSpec := { name := "ledgerPeriodChecks", fn := fun _ => fun
  | [d1, d2] => { results := [.lit (.bool true)], args := [d1, d2] }
  | _ => none }
def ledgerPeriodChecksRow : OpenClaim := { program := "ytneiofnlmblglaagreatdoor", sum := "5e2d07da79b59ac555d24295ff8a401de258f49134b5d8f814cad3d2ada082bc", func := "bulla/bullalaw08.LedgerPeriodChecks", spec := "ledgerPeriodChecks", unfollowed := true, recurses := true, named := ["bulla/metro.zero"], plainKeys := false, apart := false, laid := [("bulla/metro.zero", laid_bulla_metro_zero)] }
def LedgerPeriodChecksSaid : Prop := ledgerPeriodChecksRow.holds Tryz.pinned (OpenSpec.ofChange ledgerPeriodChecksSpec)

/-- ITS FALSE NEIGHBOUR: 'it returns false'. Refute it at one input. -/
def ledgerPeriodChecksWrong : ChangeSpec := { name := "ledgerPeriodChecks", fn := fun _ => fun
  | [d1, d2] => { results := [.lit (.bool false)], args := [d1, d2] }
  | _ => none }
def LedgerPeriodChecksWrongFalsely : Prop := ledgerPeriodChecksRow.holds Tryz.pinned (OpenSpec.ofChange ledgerPeriodChecksWrong)

/-- 'bullalaw08.LedgerPeriodCarries': WHATEVER THE INPUT: true; the input reads as it did. -/
def ledgerPeriodCarriesSpec : ChangeSpec := { name := "ledgerPeriodCarries", fn := fun _ => fun
  | [d1, d2] => { results := [.lit (.bool true)], args := [d1, d2] }
  | _ => none }
def ledgerPeriodCarriesRow : OpenClaim := { program := "ytneiofnlmblglaagreatdoor", sum := "5e2d07da79b59ac555d24295ff8a401de258f49134b5d8f814cad3d2ada082bc", func := "bulla/bullalaw08.LedgerPeriodCarries", spec := "ledgerPeriodCarries", unfollowed := true, recurses := true, named := ["bulla/metro.zero"], plainKeys := false, apart := false, laid := [("bulla/metro.zero", laid_bulla_metro_zero)] }
def LedgerPeriodCarriesSaid : Prop := ledgerPeriodCarriesRow.holds Tryz.pinned (OpenSpec.ofChange ledgerPeriodCarriesSpec)

/-- ITS FALSE NEIGHBOUR: 'it returns false'. Refute it at one input. -/
def ledgerPeriodCarriesWrong : ChangeSpec := { name := "ledgerPeriodCarries", fn := fun _ => fun
  | [d1, d2] => { results := [.lit (.bool false)], args := [d1, d2] }
  | _ => none }
def LedgerPeriodCarriesWrongFalsely : Prop := ledgerPeriodCarriesRow.holds Tryz.pinned (OpenSpec.ofChange ledgerPeriodCarriesWrong)

/-- 'bullalaw08.LedgerRationsGiven': WHATEVER THE INPUT: true; the input reads as it did. -/
def ledgerRationsGivenSpec : ChangeSpec := { name := "ledgerRationsGiven", fn := fun _ => fun
  | [d1, d2] => { results := [.lit (.bool true)], args := [d1, d2] }
  | _ => none }
def ledgerRationsGivenRow : OpenClaim := { program := "ytneiofnlmblglaagreatdoor", sum := "5e2d07da79b59ac555d24295ff8a401de258f49134b5d8f814cad3d2ada082bc", func := "bulla/bullalaw08.LedgerRationsGiven", spec := "ledgerRationsGiven", unfollowed := true, recurses := true, named := ["bulla/metro.zero"], plainKeys := false, apart := false, laid := [("bulla/metro.zero", laid_bulla_metro_zero)] }
def LedgerRationsGivenSaid : Prop := ledgerRationsGivenRow.holds Tryz.pinned (OpenSpec.ofChange ledgerRationsGivenSpec)

/-- ITS FALSE NEIGHBOUR: 'it returns false'. Refute it at one input. -/
def ledgerRationsGivenWrong : ChangeSpec := { name := "ledgerRationsGiven", fn := fun _ => fun
  | [d1, d2] => { results := [.lit (.bool false)], args := [d1, d2] }
  | _ => none }
def LedgerRationsGivenWrongFalsely : Prop := ledgerRationsGivenRow.holds Tryz.pinned (OpenSpec.ofChange ledgerRationsGivenWrong)

/-- 'bullalaw08.LedgerPeriodDivides': WHATEVER THE INPUT: true; the input reads as it did. -/
def ledgerPeriodDividesSpec : ChangeSpec := { name := "ledgerPeriodDivides", fn := fun _ => fun
  | [d1, d2, d3] => { results := [.lit (.bool true)], args := [d1, d2, d3] }
  | _ => none }
def ledgerPeriodDividesRow : OpenClaim := { program := "ytneiofnlmblglaagreatdoor", sum := "5e2d07da79b59ac555d24295ff8a401de258f49134b5d8f814cad3d2ada082bc", func := "bulla/bullalaw08.LedgerPeriodDivides", spec := "ledgerPeriodDivides", unfollowed := true, recurses := true, named := ["bulla/metro.zero"], plainKeys := false, apart := false, laid := [("bulla/metro.zero", laid_bulla_metro_zero)] }
def LedgerPeriodDividesSaid : Prop := ledgerPeriodDividesRow.holds Tryz.pinned (OpenSpec.ofChange ledgerPeriodDividesSpec)

/-- ITS FALSE NEIGHBOUR: 'it returns false'. Refute it at one input. -/
def ledgerPeriodDividesWrong : ChangeSpec := { name := "ledgerPeriodDivides", fn := fun _ => fun
  | [d1, d2, d3] => { results := [.lit (.bool false)], args := [d1, d2, d3] }
  | _ => none }
def LedgerPeriodDividesWrongFalsely : Prop := ledgerPeriodDividesRow.holds Tryz.pinned (OpenSpec.ofChange ledgerPeriodDividesWrong)

/-- 'bullalaw08.LedgerPeriodJoins': WHATEVER THE INPUT: true; the input reads as it did. -/
def ledgerPeriodJoinsSpec : ChangeSpec := { name := "ledgerPeriodJoins", fn := fun _ => fun
  | [d1, d2, d3] => { results := [.lit (.bool true)], args := [d1, d2, d3] }
  | _ => none }
def ledgerPeriodJoinsRow : OpenClaim := { program := "ytneiofnlmblglaagreatdoor", sum := "5e2d07da79b59ac555d24295ff8a401de258f49134b5d8f814cad3d2ada082bc", func := "bulla/bullalaw08.LedgerPeriodJoins", spec := "ledgerPeriodJoins", unfollowed := true, recurses := true, named := ["bulla/metro.zero"], plainKeys := false, apart := false, laid := [("bulla/metro.zero", laid_bulla_metro_zero)] }
def LedgerPeriodJoinsSaid : Prop := ledgerPeriodJoinsRow.holds Tryz.pinned (OpenSpec.ofChange ledgerPeriodJoinsSpec)

/-- ITS FALSE NEIGHBOUR: 'it returns false'. Refute it at one input. -/
def ledgerPeriodJoinsWrong : ChangeSpec := { name := "ledgerPeriodJoins", fn := fun _ => fun
  | [d1, d2, d3] => { results := [.lit (.bool false)], args := [d1, d2, d3] }
  | _ => none }
def LedgerPeriodJoinsWrongFalsely : Prop := ledgerPeriodJoinsRow.holds Tryz.pinned (OpenSpec.ofChange ledgerPeriodJoinsWrong)

/- THE SECOND FORM. 'bulk': how many values and letters a reading holds, each counted each time it is reached (what is shared counts as often as it is met; a slice's spare places count too). A statement '..UptoSaid' is the law's where the arguments, and the package variables that the reading takes, are together of bulk at most 1048576: NARROWER than '..Said'. Prove '..Said' where nothing that the law and all that it calls make is longer than what came in: it says more and counts as full. Else prove '..UptoSaid'. A law counts once. -/
mutual
def uptoBulk {H : Type} : DataW H → Nat
  | .lit (.string bytes) => bytes.length + 1
  | .lit _ => 1
  | .nil => 1
  | .ptr d => uptoBulk d + 1
  | .slice elems spare => uptoBulkAll elems + uptoBulkAll spare + 1
  | .agg parts => uptoBulkAll parts + 1
  | .iface _ d => uptoBulk d + 1
  | .map entries => uptoBulkEntries entries + 1
  | .held _ => 1
def uptoBulkAll {H : Type} : List (DataW H) → Nat
  | [] => 0
  | d :: r => uptoBulk d + uptoBulkAll r
def uptoBulkEntries {H : Type} : List (Lit × DataW H) → Nat
  | [] => 0
  | x :: r => uptoBulkEntry x + uptoBulkEntries r
def uptoBulkEntry {H : Type} : Lit × DataW H → Nat
  | (.string bytes, d) => bytes.length + uptoBulk d + 1
  | (_, d) => uptoBulk d + 1
 end
def uptoSmall : (H : Type) → List (DataW H) → Bool := fun _ ds => decide (uptoBulkAll ds ≤ 1048576)
def OpenSpec.upto (s : _root_.Go.ChangeSpec) : _root_.Go.OpenSpec := { _root_.Go.OpenSpec.ofChange s with cond := some uptoSmall }

/-- 'bullalaw08.LedgerPeriodChecks', WHERE WHAT IT READS IS OF BULK AT MOST 1048576: true; the input reads as it did. -/
def ledgerPeriodChecksUptoRow : OpenClaim := { program := "ytneiofnlmblglaagreatdoor", sum := "5e2d07da79b59ac555d24295ff8a401de258f49134b5d8f814cad3d2ada082bc", func := "bulla/bullalaw08.LedgerPeriodChecks", spec := "ledgerPeriodChecks", unfollowed := true, recurses := true, named := ["bulla/metro.zero"], plainKeys := false, apart := false, laid := [("bulla/metro.zero", laid_bulla_metro_zero)], narrowed := true }
def LedgerPeriodChecksUptoSaid : Prop := ledgerPeriodChecksUptoRow.holds Tryz.pinned (OpenSpec.upto ledgerPeriodChecksSpec)

/-- 'bullalaw08.LedgerPeriodCarries', WHERE WHAT IT READS IS OF BULK AT MOST 1048576: true; the input reads as it did. -/
def ledgerPeriodCarriesUptoRow : OpenClaim := { program := "ytneiofnlmblglaagreatdoor", sum := "5e2d07da79b59ac555d24295ff8a401de258f49134b5d8f814cad3d2ada082bc", func := "bulla/bullalaw08.LedgerPeriodCarries", spec := "ledgerPeriodCarries", unfollowed := true, recurses := true, named := ["bulla/metro.zero"], plainKeys := false, apart := false, laid := [("bulla/metro.zero", laid_bulla_metro_zero)], narrowed := true }
def LedgerPeriodCarriesUptoSaid : Prop := ledgerPeriodCarriesUptoRow.holds Tryz.pinned (OpenSpec.upto ledgerPeriodCarriesSpec)

/-- 'bullalaw08.LedgerRationsGiven', WHERE WHAT IT READS IS OF BULK AT MOST 1048576: true; the input reads as it did. -/
def ledgerRationsGivenUptoRow : OpenClaim := { program := "ytneiofnlmblglaagreatdoor", sum := "5e2d07da79b59ac555d24295ff8a401de258f49134b5d8f814cad3d2ada082bc", func := "bulla/bullalaw08.LedgerRationsGiven", spec := "ledgerRationsGiven", unfollowed := true, recurses := true, named := ["bulla/metro.zero"], plainKeys := false, apart := false, laid := [("bulla/metro.zero", laid_bulla_metro_zero)], narrowed := true }
def LedgerRationsGivenUptoSaid : Prop := ledgerRationsGivenUptoRow.holds Tryz.pinned (OpenSpec.upto ledgerRationsGivenSpec)

/-- 'bullalaw08.LedgerPeriodDivides', WHERE WHAT IT READS IS OF BULK AT MOST 1048576: true; the input reads as it did. -/
def ledgerPeriodDividesUptoRow : OpenClaim := { program := "ytneiofnlmblglaagreatdoor", sum := "5e2d07da79b59ac555d24295ff8a401de258f49134b5d8f814cad3d2ada082bc", func := "bulla/bullalaw08.LedgerPeriodDivides", spec := "ledgerPeriodDivides", unfollowed := true, recurses := true, named := ["bulla/metro.zero"], plainKeys := false, apart := false, laid := [("bulla/metro.zero", laid_bulla_metro_zero)], narrowed := true }
def LedgerPeriodDividesUptoSaid : Prop := ledgerPeriodDividesUptoRow.holds Tryz.pinned (OpenSpec.upto ledgerPeriodDividesSpec)

/-- 'bullalaw08.LedgerPeriodJoins', WHERE WHAT IT READS IS OF BULK AT MOST 1048576: true; the input reads as it did. -/
def ledgerPeriodJoinsUptoRow : OpenClaim := { program := "ytneiofnlmblglaagreatdoor", sum := "5e2d07da79b59ac555d24295ff8a401de258f49134b5d8f814cad3d2ada082bc", func := "bulla/bullalaw08.LedgerPeriodJoins", spec := "ledgerPeriodJoins", unfollowed := true, recurses := true, named := ["bulla/metro.zero"], plainKeys := false, apart := false, laid := [("bulla/metro.zero", laid_bulla_metro_zero)], narrowed := true }
def LedgerPeriodJoinsUptoSaid : Prop := ledgerPeriodJoinsUptoRow.holds Tryz.pinned (OpenSpec.upto ledgerPeriodJoinsSpec)

end Rows
end Go.Proofs.YtneiofnlmblglaaGreatDoor
