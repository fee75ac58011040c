/-
  NARROWER THAN 'FOR EVERY INPUT', by the rows' own cells (each row's printed sentence says how): LedgerArchiveMatches: laid · LedgerMatchingMost: laid · LedgerArchiveAudits: laid · LedgerAuditClean: laid · LedgerKnown: laid.
  DERIVED. THE GIVEN ROWS OF THIS SEAT. 5 by the template 'for every input the law returns true; each argument reads behind the call as it read before'; 0 by the template 'total and deterministic' (their statements: YtoflcheopfppoaaGreatDoorTotals.lean).
  GIVEN WITH THE SEED: the statements are not yours to turn. If you find one false, say at which input.
  Laid BY PROGRAM, IN A SANDBOX (cutbox-rows.mjs): the forced cells as the released guide's own fill.sh prints them over the translation 2a7b440000004a83… (all of the seat's roots in one cut). By AI agents, Wed Nov 11 2026. No macro, syntax, notation, axiom, sorry.
-/
import Derived.Test.YtoflcheopfppoaaGreatDoorChecked
import GoSem.Claim
import GoSem.ClaimJoined
import GoSem.ClaimMapViews
import Derived.JoinedTies
import Derived.KernelRfl
namespace Go.Proofs.YtoflcheopfppoaaGreatDoor
/- THE CELL 'sum', in the pinned program and in every row, IS THE sha256 OF THE DUMP (.gsa) THAT YtoflcheopfppoaaGreatDoorProg.lean LOADS. Nothing in Lean hashes anything: it is a label: what it is worth is what the hold of that sum in a sandbox is worth. -/
noncomputable def Tryz.pinned : Pinned := { name := "ytoflcheopfppoaagreatdoor", sum := "2a7b440000004a836ce9eb3be69b4677b8e530b6b9f568fee02fd9be8f2c7dfd", checked := Tryz.checked }
namespace Rows
def none {H : Type} : Left H := { results := [], args := [] }

/- WHAT THE LISTED PACKAGE-LEVEL VARIABLES READ AS WHEN THE CALL BEGINS. Each datum BY PROGRAM (the guide's laid-datum.mjs) off the statement by which the dump's own 'gosem.cut.vars' lays the variable. In a bare row this is a premise. The card (YtoflcheopfppoaaGreatDoorCards.lean) ties it to the program's text. -/
def laid_bulla_metro_zero {H : Type} : DataW H := .agg [.lit (.int .i64 0), .lit (.int .i64 1)]

/-- 'bullalaw08.LedgerArchiveMatches': WHATEVER THE INPUT: true; the input reads as it did. -/
def ledgerArchiveMatchesSpec : ChangeSpec := { name := "ledgerArchiveMatches", fn := fun _ => fun
  | [d1, d2, d3] => { results := [.lit (.bool true)], args := [d1, d2, d3] }
  | _ => none }
def ledgerArchiveMatchesRow : OpenClaim := { program := "ytoflcheopfppoaagreatdoor", sum := "2a7b440000004a836ce9eb3be69b4677b8e530b6b9f568fee02fd9be8f2c7dfd", func := "bulla/bullalaw08.LedgerArchiveMatches", spec := "ledgerArchiveMatches", unfollowed := true, recurses := true, named := ["bulla/metro.zero"], plainKeys := false, apart := false, laid := [("bulla/metro.zero", laid_bulla_metro_zero)] }
def LedgerArchiveMatchesSaid : Prop := ledgerArchiveMatchesRow.holds Tryz.pinned (OpenSpec.ofChange ledgerArchiveMatchesSpec)

/-- ITS FALSE NEIGHBOUR: 'it returns false'. Refute it at one input. -/
def ledgerArchiveMatchesWrong : ChangeSpec := { name := "ledgerArchiveMatches", fn := fun _ => fun
  | [d1, d2, d3] => { results := [.lit (.bool false)], args := [d1, d2, d3] }
  | _ => none }
def LedgerArchiveMatchesWrongFalsely : Prop := ledgerArchiveMatchesRow.holds Tryz.pinned (OpenSpec.ofChange ledgerArchiveMatchesWrong)

/-- 'bullalaw08.LedgerMatchingMost': WHATEVER THE INPUT: true; the input reads as it did. -/
def ledgerMatchingMostSpec : ChangeSpec := { name := "ledgerMatchingMost", fn := fun _ => fun
  | [d1, d2, d3] => { results := [.lit (.bool true)], args := [d1, d2, d3] }
  | _ => none }
def ledgerMatchingMostRow : OpenClaim := { program := "ytoflcheopfppoaagreatdoor", sum := "2a7b440000004a836ce9eb3be69b4677b8e530b6b9f568fee02fd9be8f2c7dfd", func := "bulla/bullalaw08.LedgerMatchingMost", spec := "ledgerMatchingMost", unfollowed := true, recurses := true, named := ["bulla/metro.zero"], plainKeys := false, apart := false, laid := [("bulla/metro.zero", laid_bulla_metro_zero)] }
def LedgerMatchingMostSaid : Prop := ledgerMatchingMostRow.holds Tryz.pinned (OpenSpec.ofChange ledgerMatchingMostSpec)

/-- ITS FALSE NEIGHBOUR: 'it returns false'. Refute it at one input. -/
def ledgerMatchingMostWrong : ChangeSpec := { name := "ledgerMatchingMost", fn := fun _ => fun
  | [d1, d2, d3] => { results := [.lit (.bool false)], args := [d1, d2, d3] }
  | _ => none }
def LedgerMatchingMostWrongFalsely : Prop := ledgerMatchingMostRow.holds Tryz.pinned (OpenSpec.ofChange ledgerMatchingMostWrong)

/-- 'bullalaw08.LedgerArchiveAudits': WHATEVER THE INPUT: true; the input reads as it did. -/
def ledgerArchiveAuditsSpec : ChangeSpec := { name := "ledgerArchiveAudits", fn := fun _ => fun
  | [d1, d2, d3] => { results := [.lit (.bool true)], args := [d1, d2, d3] }
  | _ => none }
def ledgerArchiveAuditsRow : OpenClaim := { program := "ytoflcheopfppoaagreatdoor", sum := "2a7b440000004a836ce9eb3be69b4677b8e530b6b9f568fee02fd9be8f2c7dfd", func := "bulla/bullalaw08.LedgerArchiveAudits", spec := "ledgerArchiveAudits", unfollowed := true, recurses := true, named := ["bulla/metro.zero"], plainKeys := false, apart := false, laid := [("bulla/metro.zero", laid_bulla_metro_zero)] }
def LedgerArchiveAuditsSaid : Prop := ledgerArchiveAuditsRow.holds Tryz.pinned (OpenSpec.ofChange ledgerArchiveAuditsSpec)

/-- ITS FALSE NEIGHBOUR: 'it returns false'. Refute it at one input. -/
def ledgerArchiveAuditsWrong : ChangeSpec := { name := "ledgerArchiveAudits", fn := fun _ => fun
  | [d1, d2, d3] => { results := [.lit (.bool false)], args := [d1, d2, d3] }
  | _ => none }
def LedgerArchiveAuditsWrongFalsely : Prop := ledgerArchiveAuditsRow.holds Tryz.pinned (OpenSpec.ofChange ledgerArchiveAuditsWrong)

/-- 'bullalaw08.LedgerAuditClean': WHATEVER THE INPUT: true; the input reads as it did. -/
def ledgerAuditCleanSpec : ChangeSpec := { name := "ledgerAuditClean", fn := fun _ => fun
  | [d1, d2, d3] => { results := [.lit (.bool true)], args := [d1, d2, d3] }
  | _ => none }
def ledgerAuditCleanRow : OpenClaim := { program := "ytoflcheopfppoaagreatdoor", sum := "2a7b440000004a836ce9eb3be69b4677b8e530b6b9f568fee02fd9be8f2c7dfd", func := "bulla/bullalaw08.LedgerAuditClean", spec := "ledgerAuditClean", unfollowed := true, recurses := true, named := ["bulla/metro.zero"], plainKeys := false, apart := false, laid := [("bulla/metro.zero", laid_bulla_metro_zero)] }
def LedgerAuditCleanSaid : Prop := ledgerAuditCleanRow.holds Tryz.pinned (OpenSpec.ofChange ledgerAuditCleanSpec)

/-- ITS FALSE NEIGHBOUR: 'it returns false'. Refute it at one input. -/
def ledgerAuditCleanWrong : ChangeSpec := { name := "ledgerAuditClean", fn := fun _ => fun
  | [d1, d2, d3] => { results := [.lit (.bool false)], args := [d1, d2, d3] }
  | _ => none }
def LedgerAuditCleanWrongFalsely : Prop := ledgerAuditCleanRow.holds Tryz.pinned (OpenSpec.ofChange ledgerAuditCleanWrong)

/-- 'bullalaw08.LedgerKnown': WHATEVER THE INPUT: true; the input reads as it did. -/
def ledgerKnownSpec : ChangeSpec := { name := "ledgerKnown", fn := fun _ => fun
  | [] => { results := [.lit (.bool true)], args := [] }
  | _ => none }
def ledgerKnownRow : OpenClaim := { program := "ytoflcheopfppoaagreatdoor", sum := "2a7b440000004a836ce9eb3be69b4677b8e530b6b9f568fee02fd9be8f2c7dfd", func := "bulla/bullalaw08.LedgerKnown", spec := "ledgerKnown", unfollowed := true, recurses := true, named := ["bulla/metro.zero"], plainKeys := false, apart := false, laid := [("bulla/metro.zero", laid_bulla_metro_zero)] }
def LedgerKnownSaid : Prop := ledgerKnownRow.holds Tryz.pinned (OpenSpec.ofChange ledgerKnownSpec)

/-- ITS FALSE NEIGHBOUR: 'it returns false'. Refute it at one input. -/
def ledgerKnownWrong : ChangeSpec := { name := "ledgerKnown", fn := fun _ => fun
  | [] => { results := [.lit (.bool false)], args := [] }
  | _ => none }
def LedgerKnownWrongFalsely : Prop := ledgerKnownRow.holds Tryz.pinned (OpenSpec.ofChange ledgerKnownWrong)

/- THE SECOND FORM. 'bulk': how many values and letters a reading holds, each counted each time it is reached (what is shared counts as often as it is met; a slice's spare places count too). A statement '..UptoSaid' is the law's where the arguments, and the package variables that the reading takes, are together of bulk at most 1048576: NARROWER than '..Said'. Prove '..Said' where nothing that the law and all that it calls make is longer than what came in: it says more and counts as full. Else prove '..UptoSaid'. A law counts once. -/
mutual
def uptoBulk {H : Type} : DataW H → Nat
  | .lit (.string bytes) => bytes.length + 1
  | .lit _ => 1
  | .nil => 1
  | .ptr d => uptoBulk d + 1
  | .slice elems spare => uptoBulkAll elems + uptoBulkAll spare + 1
  | .agg parts => uptoBulkAll parts + 1
  | .iface _ d => uptoBulk d + 1
  | .map entries => uptoBulkEntries entries + 1
  | .held _ => 1
def uptoBulkAll {H : Type} : List (DataW H) → Nat
  | [] => 0
  | d :: r => uptoBulk d + uptoBulkAll r
def uptoBulkEntries {H : Type} : List (Lit × DataW H) → Nat
  | [] => 0
  | x :: r => uptoBulkEntry x + uptoBulkEntries r
def uptoBulkEntry {H : Type} : Lit × DataW H → Nat
  | (.string bytes, d) => bytes.length + uptoBulk d + 1
  | (_, d) => uptoBulk d + 1
 end
def uptoSmall : (H : Type) → List (DataW H) → Bool := fun _ ds => decide (uptoBulkAll ds ≤ 1048576)
def OpenSpec.upto (s : _root_.Go.ChangeSpec) : _root_.Go.OpenSpec := { _root_.Go.OpenSpec.ofChange s with cond := some uptoSmall }

/-- 'bullalaw08.LedgerArchiveMatches', WHERE WHAT IT READS IS OF BULK AT MOST 1048576: true; the input reads as it did. -/
def ledgerArchiveMatchesUptoRow : OpenClaim := { program := "ytoflcheopfppoaagreatdoor", sum := "2a7b440000004a836ce9eb3be69b4677b8e530b6b9f568fee02fd9be8f2c7dfd", func := "bulla/bullalaw08.LedgerArchiveMatches", spec := "ledgerArchiveMatches", unfollowed := true, recurses := true, named := ["bulla/metro.zero"], plainKeys := false, apart := false, laid := [("bulla/metro.zero", laid_bulla_metro_zero)], narrowed := true }
def LedgerArchiveMatchesUptoSaid : Prop := ledgerArchiveMatchesUptoRow.holds Tryz.pinned (OpenSpec.upto ledgerArchiveMatchesSpec)

/-- 'bullalaw08.LedgerMatchingMost', WHERE WHAT IT READS IS OF BULK AT MOST 1048576: true; the input reads as it did. -/
def ledgerMatchingMostUptoRow : OpenClaim := { program := "ytoflcheopfppoaagreatdoor", sum := "2a7b440000004a836ce9eb3be69b4677b8e530b6b9f568fee02fd9be8f2c7dfd", func := "bulla/bullalaw08.LedgerMatchingMost", spec := "ledgerMatchingMost", unfollowed := true, recurses := true, named := ["bulla/metro.zero"], plainKeys := false, apart := false, laid := [("bulla/metro.zero", laid_bulla_metro_zero)], narrowed := true }
def LedgerMatchingMostUptoSaid : Prop := ledgerMatchingMostUptoRow.holds Tryz.pinned (OpenSpec.upto ledgerMatchingMostSpec)

/-- 'bullalaw08.LedgerArchiveAudits', WHERE WHAT IT READS IS OF BULK AT MOST 1048576: true; the input reads as it did. -/
def ledgerArchiveAuditsUptoRow : OpenClaim := { program := "ytoflcheopfppoaagreatdoor", sum := "2a7b440000004a836ce9eb3be69b4677b8e530b6b9f568fee02fd9be8f2c7dfd", func := "bulla/bullalaw08.LedgerArchiveAudits", spec := "ledgerArchiveAudits", unfollowed := true, recurses := true, named := ["bulla/metro.zero"], plainKeys := false, apart := false, laid := [("bulla/metro.zero", laid_bulla_metro_zero)], narrowed := true }
def LedgerArchiveAuditsUptoSaid : Prop := ledgerArchiveAuditsUptoRow.holds Tryz.pinned (OpenSpec.upto ledgerArchiveAuditsSpec)

/-- 'bullalaw08.LedgerAuditClean', WHERE WHAT IT READS IS OF BULK AT MOST 1048576: true; the input reads as it did. -/
def ledgerAuditCleanUptoRow : OpenClaim := { program := "ytoflcheopfppoaagreatdoor", sum := "2a7b440000004a836ce9eb3be69b4677b8e530b6b9f568fee02fd9be8f2c7dfd", func := "bulla/bullalaw08.LedgerAuditClean", spec := "ledgerAuditClean", unfollowed := true, recurses := true, named := ["bulla/metro.zero"], plainKeys := false, apart := false, laid := [("bulla/metro.zero", laid_bulla_metro_zero)], narrowed := true }
def LedgerAuditCleanUptoSaid : Prop := ledgerAuditCleanUptoRow.holds Tryz.pinned (OpenSpec.upto ledgerAuditCleanSpec)

/-- 'bullalaw08.LedgerKnown', WHERE WHAT IT READS IS OF BULK AT MOST 1048576: true; the input reads as it did. -/
def ledgerKnownUptoRow : OpenClaim := { program := "ytoflcheopfppoaagreatdoor", sum := "2a7b440000004a836ce9eb3be69b4677b8e530b6b9f568fee02fd9be8f2c7dfd", func := "bulla/bullalaw08.LedgerKnown", spec := "ledgerKnown", unfollowed := true, recurses := true, named := ["bulla/metro.zero"], plainKeys := false, apart := false, laid := [("bulla/metro.zero", laid_bulla_metro_zero)], narrowed := true }
def LedgerKnownUptoSaid : Prop := ledgerKnownUptoRow.holds Tryz.pinned (OpenSpec.upto ledgerKnownSpec)

end Rows
end Go.Proofs.YtoflcheopfppoaaGreatDoor
