/-
  NARROWER THAN 'FOR EVERY INPUT', by the rows' own cells (each row's printed sentence says how): TopCarries: laid · LedgerCarryJoins: laid · LedgerDivideJoins: laid.
  DERIVED. THE GIVEN ROWS OF THIS SEAT. 3 by the template 'for every input the law returns true; each argument reads behind the call as it read before'; 0 by the template 'total and deterministic' (their statements: YtneiofnlmblglaaDoorTotals.lean).
  GIVEN WITH THE SEED: the statements are not yours to turn. If you find one false, say at which input.
  Laid BY PROGRAM, IN A SANDBOX (cutbox-rows.mjs): the forced cells as the released guide's own fill.sh prints them over the translation 76397898803994ea… (all of the seat's roots in one cut). By AI agents, Wed Nov 11 2026. No macro, syntax, notation, axiom, sorry.
-/
import Derived.Test.YtneiofnlmblglaaDoorChecked
import GoSem.Claim
import GoSem.ClaimJoined
import GoSem.ClaimMapViews
import Derived.JoinedTies
import Derived.KernelRfl
namespace Go.Proofs.YtneiofnlmblglaaDoor
/- THE CELL 'sum', in the pinned program and in every row, IS THE sha256 OF THE DUMP (.gsa) THAT YtneiofnlmblglaaDoorProg.lean LOADS. Nothing in Lean hashes anything: it is a label: what it is worth is what the hold of that sum in a sandbox is worth. -/
noncomputable def Tryd.pinned : Pinned := { name := "ytneiofnlmblglaadoor", sum := "76397898803994ea73bccf81b5dc8ab4fe95baf2edccaa8cefb8763696a946c1", checked := Tryd.checked }
namespace Rows
def none {H : Type} : Left H := { results := [], args := [] }

/- WHAT THE LISTED PACKAGE-LEVEL VARIABLES READ AS WHEN THE CALL BEGINS. Each datum BY PROGRAM (the guide's laid-datum.mjs) off the statement by which the dump's own 'gosem.cut.vars' lays the variable. In a bare row this is a premise. The card (YtneiofnlmblglaaDoorCards.lean) ties it to the program's text. -/
def laid_bulla_metro_zero {H : Type} : DataW H := .agg [.lit (.int .i64 0), .lit (.int .i64 1)]

/-- 'bullatop.TopCarries': WHATEVER THE INPUT: true; the input reads as it did. -/
def topCarriesSpec : ChangeSpec := { name := "topCarries", fn := fun _ => fun
  | [d1, d2, d3] => { results := [.lit (.bool true)], args := [d1, d2, d3] }
  | _ => none }
def topCarriesRow : OpenClaim := { program := "ytneiofnlmblglaadoor", sum := "76397898803994ea73bccf81b5dc8ab4fe95baf2edccaa8cefb8763696a946c1", func := "bulla/bullatop.TopCarries", spec := "topCarries", unfollowed := true, recurses := true, named := ["bulla/metro.zero"], plainKeys := false, apart := false, laid := [("bulla/metro.zero", laid_bulla_metro_zero)] }
def TopCarriesSaid : Prop := topCarriesRow.holds Tryd.pinned (OpenSpec.ofChange topCarriesSpec)

/-- ITS FALSE NEIGHBOUR: 'it returns false'. Refute it at one input. -/
def topCarriesWrong : ChangeSpec := { name := "topCarries", fn := fun _ => fun
  | [d1, d2, d3] => { results := [.lit (.bool false)], args := [d1, d2, d3] }
  | _ => none }
def TopCarriesWrongFalsely : Prop := topCarriesRow.holds Tryd.pinned (OpenSpec.ofChange topCarriesWrong)

/-- 'bullalaw08.LedgerCarryJoins': WHATEVER THE INPUT: true; the input reads as it did. -/
def ledgerCarryJoinsSpec : ChangeSpec := { name := "ledgerCarryJoins", fn := fun _ => fun
  | [d1, d2] => { results := [.lit (.bool true)], args := [d1, d2] }
  | _ => none }
def ledgerCarryJoinsRow : OpenClaim := { program := "ytneiofnlmblglaadoor", sum := "76397898803994ea73bccf81b5dc8ab4fe95baf2edccaa8cefb8763696a946c1", func := "bulla/bullalaw08.LedgerCarryJoins", spec := "ledgerCarryJoins", unfollowed := true, recurses := true, named := ["bulla/metro.zero"], plainKeys := false, apart := false, laid := [("bulla/metro.zero", laid_bulla_metro_zero)] }
def LedgerCarryJoinsSaid : Prop := ledgerCarryJoinsRow.holds Tryd.pinned (OpenSpec.ofChange ledgerCarryJoinsSpec)

/-- ITS FALSE NEIGHBOUR: 'it returns false'. Refute it at one input. -/
def ledgerCarryJoinsWrong : ChangeSpec := { name := "ledgerCarryJoins", fn := fun _ => fun
  | [d1, d2] => { results := [.lit (.bool false)], args := [d1, d2] }
  | _ => none }
def LedgerCarryJoinsWrongFalsely : Prop := ledgerCarryJoinsRow.holds Tryd.pinned (OpenSpec.ofChange ledgerCarryJoinsWrong)

/-- 'bullalaw08.LedgerDivideJoins': WHATEVER THE INPUT: true; the input reads as it did. -/
def ledgerDivideJoinsSpec : ChangeSpec := { name := "ledgerDivideJoins", fn := fun _ => fun
  | [d1, d2, d3] => { results := [.lit (.bool true)], args := [d1, d2, d3] }
  | _ => none }
def ledgerDivideJoinsRow : OpenClaim := { program := "ytneiofnlmblglaadoor", sum := "76397898803994ea73bccf81b5dc8ab4fe95baf2edccaa8cefb8763696a946c1", func := "bulla/bullalaw08.LedgerDivideJoins", spec := "ledgerDivideJoins", unfollowed := true, recurses := true, named := ["bulla/metro.zero"], plainKeys := false, apart := false, laid := [("bulla/metro.zero", laid_bulla_metro_zero)] }
def LedgerDivideJoinsSaid : Prop := ledgerDivideJoinsRow.holds Tryd.pinned (OpenSpec.ofChange ledgerDivideJoinsSpec)

/-- ITS FALSE NEIGHBOUR: 'it returns false'. Refute it at one input. -/
def ledgerDivideJoinsWrong : ChangeSpec := { name := "ledgerDivideJoins", fn := fun _ => fun
  | [d1, d2, d3] => { results := [.lit (.bool false)], args := [d1, d2, d3] }
  | _ => none }
def LedgerDivideJoinsWrongFalsely : Prop := ledgerDivideJoinsRow.holds Tryd.pinned (OpenSpec.ofChange ledgerDivideJoinsWrong)

/- THE SECOND FORM. 'bulk': how many values and letters a reading holds, each counted each time it is reached (what is shared counts as often as it is met; a slice's spare places count too). A statement '..UptoSaid' is the law's where the arguments, and the package variables that the reading takes, are together of bulk at most 1048576: NARROWER than '..Said'. Prove '..Said' where nothing that the law and all that it calls make is longer than what came in: it says more and counts as full. Else prove '..UptoSaid'. A law counts once. -/
mutual
def uptoBulk {H : Type} : DataW H → Nat
  | .lit (.string bytes) => bytes.length + 1
  | .lit _ => 1
  | .nil => 1
  | .ptr d => uptoBulk d + 1
  | .slice elems spare => uptoBulkAll elems + uptoBulkAll spare + 1
  | .agg parts => uptoBulkAll parts + 1
  | .iface _ d => uptoBulk d + 1
  | .map entries => uptoBulkEntries entries + 1
  | .held _ => 1
def uptoBulkAll {H : Type} : List (DataW H) → Nat
  | [] => 0
  | d :: r => uptoBulk d + uptoBulkAll r
def uptoBulkEntries {H : Type} : List (Lit × DataW H) → Nat
  | [] => 0
  | x :: r => uptoBulkEntry x + uptoBulkEntries r
def uptoBulkEntry {H : Type} : Lit × DataW H → Nat
  | (.string bytes, d) => bytes.length + uptoBulk d + 1
  | (_, d) => uptoBulk d + 1
 end
def uptoSmall : (H : Type) → List (DataW H) → Bool := fun _ ds => decide (uptoBulkAll ds ≤ 1048576)
def OpenSpec.upto (s : _root_.Go.ChangeSpec) : _root_.Go.OpenSpec := { _root_.Go.OpenSpec.ofChange s with cond := some uptoSmall }

/-- 'bullatop.TopCarries', WHERE WHAT IT READS IS OF BULK AT MOST 1048576: true; the input reads as it did. -/
def topCarriesUptoRow : OpenClaim := { program := "ytneiofnlmblglaadoor", sum := "76397898803994ea73bccf81b5dc8ab4fe95baf2edccaa8cefb8763696a946c1", func := "bulla/bullatop.TopCarries", spec := "topCarries", unfollowed := true, recurses := true, named := ["bulla/metro.zero"], plainKeys := false, apart := false, laid := [("bulla/metro.zero", laid_bulla_metro_zero)], narrowed := true }
def TopCarriesUptoSaid : Prop := topCarriesUptoRow.holds Tryd.pinned (OpenSpec.upto topCarriesSpec)

/-- 'bullalaw08.LedgerCarryJoins', WHERE WHAT IT READS IS OF BULK AT MOST 1048576: true; the input reads as it did. -/
def ledgerCarryJoinsUptoRow : OpenClaim := { program := "ytneiofnlmblglaadoor", sum := "76397898803994ea73bccf81b5dc8ab4fe95baf2edccaa8cefb8763696a946c1", func := "bulla/bullalaw08.LedgerCarryJoins", spec := "ledgerCarryJoins", unfollowed := true, recurses := true, named := ["bulla/metro.zero"], plainKeys := false, apart := false, laid := [("bulla/metro.zero", laid_bulla_metro_zero)], narrowed := true }
def LedgerCarryJoinsUptoSaid : Prop := ledgerCarryJoinsUptoRow.holds Tryd.pinned (OpenSpec.upto ledgerCarryJoinsSpec)

/-- 'bullalaw08.LedgerDivideJoins', WHERE WHAT IT READS IS OF BULK AT MOST 1048576: true; the input reads as it did. -/
def ledgerDivideJoinsUptoRow : OpenClaim := { program := "ytneiofnlmblglaadoor", sum := "76397898803994ea73bccf81b5dc8ab4fe95baf2edccaa8cefb8763696a946c1", func := "bulla/bullalaw08.LedgerDivideJoins", spec := "ledgerDivideJoins", unfollowed := true, recurses := true, named := ["bulla/metro.zero"], plainKeys := false, apart := false, laid := [("bulla/metro.zero", laid_bulla_metro_zero)], narrowed := true }
def LedgerDivideJoinsUptoSaid : Prop := ledgerDivideJoinsUptoRow.holds Tryd.pinned (OpenSpec.upto ledgerDivideJoinsSpec)

end Rows
end Go.Proofs.YtneiofnlmblglaaDoor
