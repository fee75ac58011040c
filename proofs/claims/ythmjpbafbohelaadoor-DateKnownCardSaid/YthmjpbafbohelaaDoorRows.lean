/-
  NARROWER THAN 'FOR EVERY INPUT', by the rows' own cells (each row's printed sentence says how): TopDates: laid · LedgerHerdGrows: laid · LedgerInterestLinear: laid · LedgerDoublesFirst: laid · LedgerFewestSuffices: laid · LedgerPaymentsKept: laid · LedgerSettleClears: laid · DateKnown: laid.
  DERIVED. THE GIVEN ROWS OF THIS SEAT. 8 by the template 'for every input the law returns true; each argument reads behind the call as it read before'; 0 by the template 'total and deterministic' (their statements: YthmjpbafbohelaaDoorTotals.lean).
  GIVEN WITH THE SEED: the statements are not yours to turn. If you find one false, say at which input.
  Laid BY PROGRAM, IN A SANDBOX (cutbox-rows.mjs): the forced cells as the released guide's own fill.sh prints them over the translation 2085c939078650f9… (all of the seat's roots in one cut). By AI agents, Wed Nov 11 2026. No macro, syntax, notation, axiom, sorry.
-/
import Derived.Test.YthmjpbafbohelaaDoorChecked
import GoSem.Claim
import GoSem.ClaimJoined
import GoSem.ClaimMapViews
import Derived.JoinedTies
import Derived.KernelRfl
namespace Go.Proofs.YthmjpbafbohelaaDoor
/- THE CELL 'sum', in the pinned program and in every row, IS THE sha256 OF THE DUMP (.gsa) THAT YthmjpbafbohelaaDoorProg.lean LOADS. Nothing in Lean hashes anything: it is a label: what it is worth is what the hold of that sum in a sandbox is worth. -/
noncomputable def Tryd.pinned : Pinned := { name := "ythmjpbafbohelaadoor", sum := "2085c939078650f9a7f39fd8e340809fd1f54ce347e2ec019dd08ffa1ced7502", checked := Tryd.checked }
namespace Rows
def none {H : Type} : Left H := { results := [], args := [] }

/- WHAT THE LISTED PACKAGE-LEVEL VARIABLES READ AS WHEN THE CALL BEGINS. Each datum BY PROGRAM (the guide's laid-datum.mjs) off the statement by which the dump's own 'gosem.cut.vars' lays the variable. In a bare row this is a premise. The card (YthmjpbafbohelaaDoorCards.lean) ties it to the program's text. -/
def laid_math_bits_deBruijn32tab {H : Type} : DataW H := .agg [.lit (.int .u8 0), .lit (.int .u8 1), .lit (.int .u8 28), .lit (.int .u8 2), .lit (.int .u8 29), .lit (.int .u8 14), .lit (.int .u8 24), .lit (.int .u8 3), .lit (.int .u8 30), .lit (.int .u8 22), .lit (.int .u8 20), .lit (.int .u8 15), .lit (.int .u8 25), .lit (.int .u8 17), .lit (.int .u8 4), .lit (.int .u8 8), .lit (.int .u8 31), .lit (.int .u8 27), .lit (.int .u8 13), .lit (.int .u8 23), .lit (.int .u8 21), .lit (.int .u8 19), .lit (.int .u8 16), .lit (.int .u8 7), .lit (.int .u8 26), .lit (.int .u8 12), .lit (.int .u8 18), .lit (.int .u8 6), .lit (.int .u8 11), .lit (.int .u8 5), .lit (.int .u8 10), .lit (.int .u8 9)]
def laid_math_bits_deBruijn64tab {H : Type} : DataW H := .agg [.lit (.int .u8 0), .lit (.int .u8 1), .lit (.int .u8 56), .lit (.int .u8 2), .lit (.int .u8 57), .lit (.int .u8 49), .lit (.int .u8 28), .lit (.int .u8 3), .lit (.int .u8 61), .lit (.int .u8 58), .lit (.int .u8 42), .lit (.int .u8 50), .lit (.int .u8 38), .lit (.int .u8 29), .lit (.int .u8 17), .lit (.int .u8 4), .lit (.int .u8 62), .lit (.int .u8 47), .lit (.int .u8 59), .lit (.int .u8 36), .lit (.int .u8 45), .lit (.int .u8 43), .lit (.int .u8 51), .lit (.int .u8 22), .lit (.int .u8 53), .lit (.int .u8 39), .lit (.int .u8 33), .lit (.int .u8 30), .lit (.int .u8 24), .lit (.int .u8 18), .lit (.int .u8 12), .lit (.int .u8 5), .lit (.int .u8 63), .lit (.int .u8 55), .lit (.int .u8 48), .lit (.int .u8 27), .lit (.int .u8 60), .lit (.int .u8 41), .lit (.int .u8 37), .lit (.int .u8 16), .lit (.int .u8 46), .lit (.int .u8 35), .lit (.int .u8 44), .lit (.int .u8 21), .lit (.int .u8 52), .lit (.int .u8 32), .lit (.int .u8 23), .lit (.int .u8 11), .lit (.int .u8 54), .lit (.int .u8 26), .lit (.int .u8 40), .lit (.int .u8 15), .lit (.int .u8 34), .lit (.int .u8 20), .lit (.int .u8 31), .lit (.int .u8 10), .lit (.int .u8 25), .lit (.int .u8 14), .lit (.int .u8 19), .lit (.int .u8 9), .lit (.int .u8 13), .lit (.int .u8 8), .lit (.int .u8 7), .lit (.int .u8 6)]
def laid_bulla_metro_zero {H : Type} : DataW H := .agg [.lit (.int .i64 0), .lit (.int .i64 1)]
def laid_internal_strconv_uint64pow10 {H : Type} : DataW H := .agg [.lit (.int .u64 1), .lit (.int .u64 10), .lit (.int .u64 100), .lit (.int .u64 1000), .lit (.int .u64 10000), .lit (.int .u64 100000), .lit (.int .u64 1000000), .lit (.int .u64 10000000), .lit (.int .u64 100000000), .lit (.int .u64 1000000000), .lit (.int .u64 10000000000), .lit (.int .u64 100000000000), .lit (.int .u64 1000000000000), .lit (.int .u64 10000000000000), .lit (.int .u64 100000000000000), .lit (.int .u64 1000000000000000), .lit (.int .u64 10000000000000000), .lit (.int .u64 100000000000000000), .lit (.int .u64 1000000000000000000), .lit (.int .u64 10000000000000000000)]

/-- 'bullatop.TopDates': WHATEVER THE INPUT: true; the input reads as it did. -/
def topDatesSpec : ChangeSpec := { name := "topDates", fn := fun _ => fun
  | [d1, d2, d3] => { results := [.lit (.bool true)], args := [d1, d2, d3] }
  | _ => none }
def topDatesRow : OpenClaim := { program := "ythmjpbafbohelaadoor", sum := "2085c939078650f9a7f39fd8e340809fd1f54ce347e2ec019dd08ffa1ced7502", func := "bulla/bullatop.TopDates", spec := "topDates", inPlace := ["internal/abi.NoEscape", "internal/bytealg.MakeNoZero"], unfollowed := true, recurses := true, named := ["internal/strconv.uint64pow10", "math/bits.deBruijn32tab", "math/bits.deBruijn64tab", "bulla/metro.zero"], plainKeys := false, apart := false, laid := [("math/bits.deBruijn32tab", laid_math_bits_deBruijn32tab), ("math/bits.deBruijn64tab", laid_math_bits_deBruijn64tab), ("bulla/metro.zero", laid_bulla_metro_zero), ("internal/strconv.uint64pow10", laid_internal_strconv_uint64pow10)] }
def TopDatesSaid : Prop := topDatesRow.holds Tryd.pinned (OpenSpec.ofChange topDatesSpec)

/-- ITS FALSE NEIGHBOUR: 'it returns false'. Refute it at one input. -/
def topDatesWrong : ChangeSpec := { name := "topDates", fn := fun _ => fun
  | [d1, d2, d3] => { results := [.lit (.bool false)], args := [d1, d2, d3] }
  | _ => none }
def TopDatesWrongFalsely : Prop := topDatesRow.holds Tryd.pinned (OpenSpec.ofChange topDatesWrong)

/-- 'bullalaw08.LedgerHerdGrows': WHATEVER THE INPUT: true; the input reads as it did. -/
def ledgerHerdGrowsSpec : ChangeSpec := { name := "ledgerHerdGrows", fn := fun _ => fun
  | [d1, d2, d3] => { results := [.lit (.bool true)], args := [d1, d2, d3] }
  | _ => none }
def ledgerHerdGrowsRow : OpenClaim := { program := "ythmjpbafbohelaadoor", sum := "2085c939078650f9a7f39fd8e340809fd1f54ce347e2ec019dd08ffa1ced7502", func := "bulla/bullalaw08.LedgerHerdGrows", spec := "ledgerHerdGrows", unfollowed := true, recurses := true, named := ["bulla/metro.zero"], plainKeys := false, apart := false, laid := [("bulla/metro.zero", laid_bulla_metro_zero)] }
def LedgerHerdGrowsSaid : Prop := ledgerHerdGrowsRow.holds Tryd.pinned (OpenSpec.ofChange ledgerHerdGrowsSpec)

/-- ITS FALSE NEIGHBOUR: 'it returns false'. Refute it at one input. -/
def ledgerHerdGrowsWrong : ChangeSpec := { name := "ledgerHerdGrows", fn := fun _ => fun
  | [d1, d2, d3] => { results := [.lit (.bool false)], args := [d1, d2, d3] }
  | _ => none }
def LedgerHerdGrowsWrongFalsely : Prop := ledgerHerdGrowsRow.holds Tryd.pinned (OpenSpec.ofChange ledgerHerdGrowsWrong)

/-- 'bullalaw08.LedgerInterestLinear': WHATEVER THE INPUT: true; the input reads as it did. -/
def ledgerInterestLinearSpec : ChangeSpec := { name := "ledgerInterestLinear", fn := fun _ => fun
  | [d1, d2, d3] => { results := [.lit (.bool true)], args := [d1, d2, d3] }
  | _ => none }
def ledgerInterestLinearRow : OpenClaim := { program := "ythmjpbafbohelaadoor", sum := "2085c939078650f9a7f39fd8e340809fd1f54ce347e2ec019dd08ffa1ced7502", func := "bulla/bullalaw08.LedgerInterestLinear", spec := "ledgerInterestLinear", unfollowed := true, recurses := true, named := ["bulla/metro.zero"], plainKeys := false, apart := false, laid := [("bulla/metro.zero", laid_bulla_metro_zero)] }
def LedgerInterestLinearSaid : Prop := ledgerInterestLinearRow.holds Tryd.pinned (OpenSpec.ofChange ledgerInterestLinearSpec)

/-- ITS FALSE NEIGHBOUR: 'it returns false'. Refute it at one input. -/
def ledgerInterestLinearWrong : ChangeSpec := { name := "ledgerInterestLinear", fn := fun _ => fun
  | [d1, d2, d3] => { results := [.lit (.bool false)], args := [d1, d2, d3] }
  | _ => none }
def LedgerInterestLinearWrongFalsely : Prop := ledgerInterestLinearRow.holds Tryd.pinned (OpenSpec.ofChange ledgerInterestLinearWrong)

/-- 'bullalaw08.LedgerDoublesFirst': WHATEVER THE INPUT: true; the input reads as it did. -/
def ledgerDoublesFirstSpec : ChangeSpec := { name := "ledgerDoublesFirst", fn := fun _ => fun
  | [d1, d2] => { results := [.lit (.bool true)], args := [d1, d2] }
  | _ => none }
def ledgerDoublesFirstRow : OpenClaim := { program := "ythmjpbafbohelaadoor", sum := "2085c939078650f9a7f39fd8e340809fd1f54ce347e2ec019dd08ffa1ced7502", func := "bulla/bullalaw08.LedgerDoublesFirst", spec := "ledgerDoublesFirst", unfollowed := true, recurses := true, named := ["bulla/metro.zero"], plainKeys := false, apart := false, laid := [("bulla/metro.zero", laid_bulla_metro_zero)] }
def LedgerDoublesFirstSaid : Prop := ledgerDoublesFirstRow.holds Tryd.pinned (OpenSpec.ofChange ledgerDoublesFirstSpec)

/-- ITS FALSE NEIGHBOUR: 'it returns false'. Refute it at one input. -/
def ledgerDoublesFirstWrong : ChangeSpec := { name := "ledgerDoublesFirst", fn := fun _ => fun
  | [d1, d2] => { results := [.lit (.bool false)], args := [d1, d2] }
  | _ => none }
def LedgerDoublesFirstWrongFalsely : Prop := ledgerDoublesFirstRow.holds Tryd.pinned (OpenSpec.ofChange ledgerDoublesFirstWrong)

/-- 'bullalaw08.LedgerFewestSuffices': WHATEVER THE INPUT: true; the input reads as it did. -/
def ledgerFewestSufficesSpec : ChangeSpec := { name := "ledgerFewestSuffices", fn := fun _ => fun
  | [d1, d2, d3] => { results := [.lit (.bool true)], args := [d1, d2, d3] }
  | _ => none }
def ledgerFewestSufficesRow : OpenClaim := { program := "ythmjpbafbohelaadoor", sum := "2085c939078650f9a7f39fd8e340809fd1f54ce347e2ec019dd08ffa1ced7502", func := "bulla/bullalaw08.LedgerFewestSuffices", spec := "ledgerFewestSuffices", unfollowed := true, recurses := true, named := ["bulla/metro.zero"], plainKeys := false, apart := false, laid := [("bulla/metro.zero", laid_bulla_metro_zero)] }
def LedgerFewestSufficesSaid : Prop := ledgerFewestSufficesRow.holds Tryd.pinned (OpenSpec.ofChange ledgerFewestSufficesSpec)

/-- ITS FALSE NEIGHBOUR: 'it returns false'. Refute it at one input. -/
def ledgerFewestSufficesWrong : ChangeSpec := { name := "ledgerFewestSuffices", fn := fun _ => fun
  | [d1, d2, d3] => { results := [.lit (.bool false)], args := [d1, d2, d3] }
  | _ => none }
def LedgerFewestSufficesWrongFalsely : Prop := ledgerFewestSufficesRow.holds Tryd.pinned (OpenSpec.ofChange ledgerFewestSufficesWrong)

/-- 'bullalaw08.LedgerPaymentsKept': WHATEVER THE INPUT: true; the input reads as it did. -/
def ledgerPaymentsKeptSpec : ChangeSpec := { name := "ledgerPaymentsKept", fn := fun _ => fun
  | [d1, d2] => { results := [.lit (.bool true)], args := [d1, d2] }
  | _ => none }
def ledgerPaymentsKeptRow : OpenClaim := { program := "ythmjpbafbohelaadoor", sum := "2085c939078650f9a7f39fd8e340809fd1f54ce347e2ec019dd08ffa1ced7502", func := "bulla/bullalaw08.LedgerPaymentsKept", spec := "ledgerPaymentsKept", unfollowed := true, recurses := true, named := ["bulla/metro.zero"], plainKeys := false, apart := false, laid := [("bulla/metro.zero", laid_bulla_metro_zero)] }
def LedgerPaymentsKeptSaid : Prop := ledgerPaymentsKeptRow.holds Tryd.pinned (OpenSpec.ofChange ledgerPaymentsKeptSpec)

/-- ITS FALSE NEIGHBOUR: 'it returns false'. Refute it at one input. -/
def ledgerPaymentsKeptWrong : ChangeSpec := { name := "ledgerPaymentsKept", fn := fun _ => fun
  | [d1, d2] => { results := [.lit (.bool false)], args := [d1, d2] }
  | _ => none }
def LedgerPaymentsKeptWrongFalsely : Prop := ledgerPaymentsKeptRow.holds Tryd.pinned (OpenSpec.ofChange ledgerPaymentsKeptWrong)

/-- 'bullalaw08.LedgerSettleClears': WHATEVER THE INPUT: true; the input reads as it did. -/
def ledgerSettleClearsSpec : ChangeSpec := { name := "ledgerSettleClears", fn := fun _ => fun
  | [d1, d2, d3] => { results := [.lit (.bool true)], args := [d1, d2, d3] }
  | _ => none }
def ledgerSettleClearsRow : OpenClaim := { program := "ythmjpbafbohelaadoor", sum := "2085c939078650f9a7f39fd8e340809fd1f54ce347e2ec019dd08ffa1ced7502", func := "bulla/bullalaw08.LedgerSettleClears", spec := "ledgerSettleClears", unfollowed := true, recurses := true, named := ["bulla/metro.zero"], plainKeys := false, apart := false, laid := [("bulla/metro.zero", laid_bulla_metro_zero)] }
def LedgerSettleClearsSaid : Prop := ledgerSettleClearsRow.holds Tryd.pinned (OpenSpec.ofChange ledgerSettleClearsSpec)

/-- ITS FALSE NEIGHBOUR: 'it returns false'. Refute it at one input. -/
def ledgerSettleClearsWrong : ChangeSpec := { name := "ledgerSettleClears", fn := fun _ => fun
  | [d1, d2, d3] => { results := [.lit (.bool false)], args := [d1, d2, d3] }
  | _ => none }
def LedgerSettleClearsWrongFalsely : Prop := ledgerSettleClearsRow.holds Tryd.pinned (OpenSpec.ofChange ledgerSettleClearsWrong)

/-- 'bullalaw07.DateKnown': WHATEVER THE INPUT: true; the input reads as it did. -/
def dateKnownSpec : ChangeSpec := { name := "dateKnown", fn := fun _ => fun
  | [] => { results := [.lit (.bool true)], args := [] }
  | _ => none }
def dateKnownRow : OpenClaim := { program := "ythmjpbafbohelaadoor", sum := "2085c939078650f9a7f39fd8e340809fd1f54ce347e2ec019dd08ffa1ced7502", func := "bulla/bullalaw07.DateKnown", spec := "dateKnown", inPlace := ["internal/abi.NoEscape", "internal/bytealg.MakeNoZero"], unfollowed := true, recurses := true, named := ["internal/strconv.uint64pow10", "math/bits.deBruijn32tab", "math/bits.deBruijn64tab"], plainKeys := false, apart := false, laid := [("math/bits.deBruijn32tab", laid_math_bits_deBruijn32tab), ("math/bits.deBruijn64tab", laid_math_bits_deBruijn64tab), ("internal/strconv.uint64pow10", laid_internal_strconv_uint64pow10)] }
def DateKnownSaid : Prop := dateKnownRow.holds Tryd.pinned (OpenSpec.ofChange dateKnownSpec)

/-- ITS FALSE NEIGHBOUR: 'it returns false'. Refute it at one input. -/
def dateKnownWrong : ChangeSpec := { name := "dateKnown", fn := fun _ => fun
  | [] => { results := [.lit (.bool false)], args := [] }
  | _ => none }
def DateKnownWrongFalsely : Prop := dateKnownRow.holds Tryd.pinned (OpenSpec.ofChange dateKnownWrong)

/- THE SECOND FORM. 'bulk': how many values and letters a reading holds, each counted each time it is reached (what is shared counts as often as it is met; a slice's spare places count too). A statement '..UptoSaid' is the law's where the arguments, and the package variables that the reading takes, are together of bulk at most 1048576: NARROWER than '..Said'. Prove '..Said' where nothing that the law and all that it calls make is longer than what came in: it says more and counts as full. Else prove '..UptoSaid'. A law counts once. -/
mutual
def uptoBulk {H : Type} : DataW H → Nat
  | .lit (.string bytes) => bytes.length + 1
  | .lit _ => 1
  | .nil => 1
  | .ptr d => uptoBulk d + 1
  | .slice elems spare => uptoBulkAll elems + uptoBulkAll spare + 1
  | .agg parts => uptoBulkAll parts + 1
  | .iface _ d => uptoBulk d + 1
  | .map entries => uptoBulkEntries entries + 1
  | .held _ => 1
def uptoBulkAll {H : Type} : List (DataW H) → Nat
  | [] => 0
  | d :: r => uptoBulk d + uptoBulkAll r
def uptoBulkEntries {H : Type} : List (Lit × DataW H) → Nat
  | [] => 0
  | x :: r => uptoBulkEntry x + uptoBulkEntries r
def uptoBulkEntry {H : Type} : Lit × DataW H → Nat
  | (.string bytes, d) => bytes.length + uptoBulk d + 1
  | (_, d) => uptoBulk d + 1
 end
def uptoSmall : (H : Type) → List (DataW H) → Bool := fun _ ds => decide (uptoBulkAll ds ≤ 1048576)
def OpenSpec.upto (s : _root_.Go.ChangeSpec) : _root_.Go.OpenSpec := { _root_.Go.OpenSpec.ofChange s with cond := some uptoSmall }

/-- 'bullatop.TopDates', WHERE WHAT IT READS IS OF BULK AT MOST 1048576: true; the input reads as it did. -/
def topDatesUptoRow : OpenClaim := { program := "ythmjpbafbohelaadoor", sum := "2085c939078650f9a7f39fd8e340809fd1f54ce347e2ec019dd08ffa1ced7502", func := "bulla/bullatop.TopDates", spec := "topDates", inPlace := ["internal/abi.NoEscape", "internal/bytealg.MakeNoZero"], unfollowed := true, recurses := true, named := ["internal/strconv.uint64pow10", "math/bits.deBruijn32tab", "math/bits.deBruijn64tab", "bulla/metro.zero"], plainKeys := false, apart := false, laid := [("math/bits.deBruijn32tab", laid_math_bits_deBruijn32tab), ("math/bits.deBruijn64tab", laid_math_bits_deBruijn64tab), ("bulla/metro.zero", laid_bulla_metro_zero), ("internal/strconv.uint64pow10", laid_internal_strconv_uint64pow10)], narrowed := true }
def TopDatesUptoSaid : Prop := topDatesUptoRow.holds Tryd.pinned (OpenSpec.upto topDatesSpec)

/-- 'bullalaw08.LedgerHerdGrows', WHERE WHAT IT READS IS OF BULK AT MOST 1048576: true; the input reads as it did. -/
def ledgerHerdGrowsUptoRow : OpenClaim := { program := "ythmjpbafbohelaadoor", sum := "2085c939078650f9a7f39fd8e340809fd1f54ce347e2ec019dd08ffa1ced7502", func := "bulla/bullalaw08.LedgerHerdGrows", spec := "ledgerHerdGrows", unfollowed := true, recurses := true, named := ["bulla/metro.zero"], plainKeys := false, apart := false, laid := [("bulla/metro.zero", laid_bulla_metro_zero)], narrowed := true }
def LedgerHerdGrowsUptoSaid : Prop := ledgerHerdGrowsUptoRow.holds Tryd.pinned (OpenSpec.upto ledgerHerdGrowsSpec)

/-- 'bullalaw08.LedgerInterestLinear', WHERE WHAT IT READS IS OF BULK AT MOST 1048576: true; the input reads as it did. -/
def ledgerInterestLinearUptoRow : OpenClaim := { program := "ythmjpbafbohelaadoor", sum := "2085c939078650f9a7f39fd8e340809fd1f54ce347e2ec019dd08ffa1ced7502", func := "bulla/bullalaw08.LedgerInterestLinear", spec := "ledgerInterestLinear", unfollowed := true, recurses := true, named := ["bulla/metro.zero"], plainKeys := false, apart := false, laid := [("bulla/metro.zero", laid_bulla_metro_zero)], narrowed := true }
def LedgerInterestLinearUptoSaid : Prop := ledgerInterestLinearUptoRow.holds Tryd.pinned (OpenSpec.upto ledgerInterestLinearSpec)

/-- 'bullalaw08.LedgerDoublesFirst', WHERE WHAT IT READS IS OF BULK AT MOST 1048576: true; the input reads as it did. -/
def ledgerDoublesFirstUptoRow : OpenClaim := { program := "ythmjpbafbohelaadoor", sum := "2085c939078650f9a7f39fd8e340809fd1f54ce347e2ec019dd08ffa1ced7502", func := "bulla/bullalaw08.LedgerDoublesFirst", spec := "ledgerDoublesFirst", unfollowed := true, recurses := true, named := ["bulla/metro.zero"], plainKeys := false, apart := false, laid := [("bulla/metro.zero", laid_bulla_metro_zero)], narrowed := true }
def LedgerDoublesFirstUptoSaid : Prop := ledgerDoublesFirstUptoRow.holds Tryd.pinned (OpenSpec.upto ledgerDoublesFirstSpec)

/-- 'bullalaw08.LedgerFewestSuffices', WHERE WHAT IT READS IS OF BULK AT MOST 1048576: true; the input reads as it did. -/
def ledgerFewestSufficesUptoRow : OpenClaim := { program := "ythmjpbafbohelaadoor", sum := "2085c939078650f9a7f39fd8e340809fd1f54ce347e2ec019dd08ffa1ced7502", func := "bulla/bullalaw08.LedgerFewestSuffices", spec := "ledgerFewestSuffices", unfollowed := true, recurses := true, named := ["bulla/metro.zero"], plainKeys := false, apart := false, laid := [("bulla/metro.zero", laid_bulla_metro_zero)], narrowed := true }
def LedgerFewestSufficesUptoSaid : Prop := ledgerFewestSufficesUptoRow.holds Tryd.pinned (OpenSpec.upto ledgerFewestSufficesSpec)

/-- 'bullalaw08.LedgerPaymentsKept', WHERE WHAT IT READS IS OF BULK AT MOST 1048576: true; the input reads as it did. -/
def ledgerPaymentsKeptUptoRow : OpenClaim := { program := "ythmjpbafbohelaadoor", sum := "2085c939078650f9a7f39fd8e340809fd1f54ce347e2ec019dd08ffa1ced7502", func := "bulla/bullalaw08.LedgerPaymentsKept", spec := "ledgerPaymentsKept", unfollowed := true, recurses := true, named := ["bulla/metro.zero"], plainKeys := false, apart := false, laid := [("bulla/metro.zero", laid_bulla_metro_zero)], narrowed := true }
def LedgerPaymentsKeptUptoSaid : Prop := ledgerPaymentsKeptUptoRow.holds Tryd.pinned (OpenSpec.upto ledgerPaymentsKeptSpec)

/-- 'bullalaw08.LedgerSettleClears', WHERE WHAT IT READS IS OF BULK AT MOST 1048576: true; the input reads as it did. -/
def ledgerSettleClearsUptoRow : OpenClaim := { program := "ythmjpbafbohelaadoor", sum := "2085c939078650f9a7f39fd8e340809fd1f54ce347e2ec019dd08ffa1ced7502", func := "bulla/bullalaw08.LedgerSettleClears", spec := "ledgerSettleClears", unfollowed := true, recurses := true, named := ["bulla/metro.zero"], plainKeys := false, apart := false, laid := [("bulla/metro.zero", laid_bulla_metro_zero)], narrowed := true }
def LedgerSettleClearsUptoSaid : Prop := ledgerSettleClearsUptoRow.holds Tryd.pinned (OpenSpec.upto ledgerSettleClearsSpec)

/-- 'bullalaw07.DateKnown', WHERE WHAT IT READS IS OF BULK AT MOST 1048576: true; the input reads as it did. -/
def dateKnownUptoRow : OpenClaim := { program := "ythmjpbafbohelaadoor", sum := "2085c939078650f9a7f39fd8e340809fd1f54ce347e2ec019dd08ffa1ced7502", func := "bulla/bullalaw07.DateKnown", spec := "dateKnown", inPlace := ["internal/abi.NoEscape", "internal/bytealg.MakeNoZero"], unfollowed := true, recurses := true, named := ["internal/strconv.uint64pow10", "math/bits.deBruijn32tab", "math/bits.deBruijn64tab"], plainKeys := false, apart := false, laid := [("math/bits.deBruijn32tab", laid_math_bits_deBruijn32tab), ("math/bits.deBruijn64tab", laid_math_bits_deBruijn64tab), ("internal/strconv.uint64pow10", laid_internal_strconv_uint64pow10)], narrowed := true }
def DateKnownUptoSaid : Prop := dateKnownUptoRow.holds Tryd.pinned (OpenSpec.upto dateKnownSpec)

end Rows
end Go.Proofs.YthmjpbafbohelaaDoor
