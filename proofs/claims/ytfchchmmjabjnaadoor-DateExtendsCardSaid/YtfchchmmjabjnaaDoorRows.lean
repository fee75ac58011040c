/-
  NARROWER THAN 'FOR EVERY INPUT', by the rows' own cells (each row's printed sentence says how): DateSeries: laid · DateOrder: laid · DateTraceWidens: laid · DateSeriesNarrows: laid · DateTraceFits: laid · DateSpansFit: laid · DateSeriesHolds: laid · DateSeriesExact: laid · DateMoves: laid · DateAdds: laid · DateTraceTexts: laid · DateTraceBack: laid · DateChecks: laid · DateBack: laid · TopDates: laid · DateNames: laid · DateLengths: laid · DateExtends: laid · DateWhole: laid · DateExtendKeeps: laid.
  DERIVED. THE GIVEN ROWS OF THIS SEAT. 20 by the template 'for every input the law returns true; each argument reads behind the call as it read before'; 0 by the template 'total and deterministic' (their statements: YtfchchmmjabjnaaDoorTotals.lean).
  GIVEN WITH THE SEED: the statements are not yours to turn. If you find one false, say at which input.
  Laid BY PROGRAM, IN A SANDBOX (cutbox-rows.mjs): the forced cells as the released guide's own fill.sh prints them over the translation eea5a2b916133079… (all of the seat's roots in one cut). By AI agents, Wed Nov 11 2026. No macro, syntax, notation, axiom, sorry.
-/
import Derived.Test.YtfchchmmjabjnaaDoorChecked
import GoSem.Claim
import GoSem.ClaimJoined
import GoSem.ClaimMapViews
import Derived.JoinedTies
import Derived.KernelRfl
namespace Go.Proofs.YtfchchmmjabjnaaDoor
/- THE CELL 'sum', in the pinned program and in every row, IS THE sha256 OF THE DUMP (.gsa) THAT YtfchchmmjabjnaaDoorProg.lean LOADS. Nothing in Lean hashes anything: it is a label: what it is worth is what the hold of that sum in a sandbox is worth. -/
noncomputable def Tryd.pinned : Pinned := { name := "ytfchchmmjabjnaadoor", sum := "eea5a2b916133079395412fd96be17b3b7a44df4a9a4903a946682daaf74457a", checked := Tryd.checked }
namespace Rows
def none {H : Type} : Left H := { results := [], args := [] }

/- WHAT THE LISTED PACKAGE-LEVEL VARIABLES READ AS WHEN THE CALL BEGINS. Each datum BY PROGRAM (the guide's laid-datum.mjs) off the statement by which the dump's own 'gosem.cut.vars' lays the variable. In a bare row this is a premise. The card (YtfchchmmjabjnaaDoorCards.lean) ties it to the program's text. -/
def laid_math_bits_deBruijn32tab {H : Type} : DataW H := .agg [.lit (.int .u8 0), .lit (.int .u8 1), .lit (.int .u8 28), .lit (.int .u8 2), .lit (.int .u8 29), .lit (.int .u8 14), .lit (.int .u8 24), .lit (.int .u8 3), .lit (.int .u8 30), .lit (.int .u8 22), .lit (.int .u8 20), .lit (.int .u8 15), .lit (.int .u8 25), .lit (.int .u8 17), .lit (.int .u8 4), .lit (.int .u8 8), .lit (.int .u8 31), .lit (.int .u8 27), .lit (.int .u8 13), .lit (.int .u8 23), .lit (.int .u8 21), .lit (.int .u8 19), .lit (.int .u8 16), .lit (.int .u8 7), .lit (.int .u8 26), .lit (.int .u8 12), .lit (.int .u8 18), .lit (.int .u8 6), .lit (.int .u8 11), .lit (.int .u8 5), .lit (.int .u8 10), .lit (.int .u8 9)]
def laid_math_bits_deBruijn64tab {H : Type} : DataW H := .agg [.lit (.int .u8 0), .lit (.int .u8 1), .lit (.int .u8 56), .lit (.int .u8 2), .lit (.int .u8 57), .lit (.int .u8 49), .lit (.int .u8 28), .lit (.int .u8 3), .lit (.int .u8 61), .lit (.int .u8 58), .lit (.int .u8 42), .lit (.int .u8 50), .lit (.int .u8 38), .lit (.int .u8 29), .lit (.int .u8 17), .lit (.int .u8 4), .lit (.int .u8 62), .lit (.int .u8 47), .lit (.int .u8 59), .lit (.int .u8 36), .lit (.int .u8 45), .lit (.int .u8 43), .lit (.int .u8 51), .lit (.int .u8 22), .lit (.int .u8 53), .lit (.int .u8 39), .lit (.int .u8 33), .lit (.int .u8 30), .lit (.int .u8 24), .lit (.int .u8 18), .lit (.int .u8 12), .lit (.int .u8 5), .lit (.int .u8 63), .lit (.int .u8 55), .lit (.int .u8 48), .lit (.int .u8 27), .lit (.int .u8 60), .lit (.int .u8 41), .lit (.int .u8 37), .lit (.int .u8 16), .lit (.int .u8 46), .lit (.int .u8 35), .lit (.int .u8 44), .lit (.int .u8 21), .lit (.int .u8 52), .lit (.int .u8 32), .lit (.int .u8 23), .lit (.int .u8 11), .lit (.int .u8 54), .lit (.int .u8 26), .lit (.int .u8 40), .lit (.int .u8 15), .lit (.int .u8 34), .lit (.int .u8 20), .lit (.int .u8 31), .lit (.int .u8 10), .lit (.int .u8 25), .lit (.int .u8 14), .lit (.int .u8 19), .lit (.int .u8 9), .lit (.int .u8 13), .lit (.int .u8 8), .lit (.int .u8 7), .lit (.int .u8 6)]
def laid_internal_strconv_uint64pow10 {H : Type} : DataW H := .agg [.lit (.int .u64 1), .lit (.int .u64 10), .lit (.int .u64 100), .lit (.int .u64 1000), .lit (.int .u64 10000), .lit (.int .u64 100000), .lit (.int .u64 1000000), .lit (.int .u64 10000000), .lit (.int .u64 100000000), .lit (.int .u64 1000000000), .lit (.int .u64 10000000000), .lit (.int .u64 100000000000), .lit (.int .u64 1000000000000), .lit (.int .u64 10000000000000), .lit (.int .u64 100000000000000), .lit (.int .u64 1000000000000000), .lit (.int .u64 10000000000000000), .lit (.int .u64 100000000000000000), .lit (.int .u64 1000000000000000000), .lit (.int .u64 10000000000000000000)]
def laid_bulla_metro_zero {H : Type} : DataW H := .agg [.lit (.int .i64 0), .lit (.int .i64 1)]

/-- 'bullalaw07.DateSeries': WHATEVER THE INPUT: true; the input reads as it did. -/
def dateSeriesSpec : ChangeSpec := { name := "dateSeries", fn := fun _ => fun
  | [d1, d2] => { results := [.lit (.bool true)], args := [d1, d2] }
  | _ => none }
def dateSeriesRow : OpenClaim := { program := "ytfchchmmjabjnaadoor", sum := "eea5a2b916133079395412fd96be17b3b7a44df4a9a4903a946682daaf74457a", func := "bulla/bullalaw07.DateSeries", spec := "dateSeries", inPlace := ["internal/abi.NoEscape", "internal/bytealg.MakeNoZero"], unfollowed := true, recurses := true, named := ["internal/strconv.uint64pow10", "math/bits.deBruijn32tab", "math/bits.deBruijn64tab"], plainKeys := false, apart := false, laid := [("math/bits.deBruijn32tab", laid_math_bits_deBruijn32tab), ("math/bits.deBruijn64tab", laid_math_bits_deBruijn64tab), ("internal/strconv.uint64pow10", laid_internal_strconv_uint64pow10)] }
def DateSeriesSaid : Prop := dateSeriesRow.holds Tryd.pinned (OpenSpec.ofChange dateSeriesSpec)

/-- ITS FALSE NEIGHBOUR: 'it returns false'. Refute it at one input. -/
def dateSeriesWrong : ChangeSpec := { name := "dateSeries", fn := fun _ => fun
  | [d1, d2] => { results := [.lit (.bool false)], args := [d1, d2] }
  | _ => none }
def DateSeriesWrongFalsely : Prop := dateSeriesRow.holds Tryd.pinned (OpenSpec.ofChange dateSeriesWrong)

/-- 'bullalaw07.DateOrder': WHATEVER THE INPUT: true; the input reads as it did. -/
def dateOrderSpec : ChangeSpec := { name := "dateOrder", fn := fun _ => fun
  | [d1, d2] => { results := [.lit (.bool true)], args := [d1, d2] }
  | _ => none }
def dateOrderRow : OpenClaim := { program := "ytfchchmmjabjnaadoor", sum := "eea5a2b916133079395412fd96be17b3b7a44df4a9a4903a946682daaf74457a", func := "bulla/bullalaw07.DateOrder", spec := "dateOrder", inPlace := ["internal/abi.NoEscape", "internal/bytealg.MakeNoZero"], unfollowed := true, recurses := true, named := ["internal/strconv.uint64pow10", "math/bits.deBruijn32tab", "math/bits.deBruijn64tab"], plainKeys := false, apart := false, laid := [("math/bits.deBruijn32tab", laid_math_bits_deBruijn32tab), ("math/bits.deBruijn64tab", laid_math_bits_deBruijn64tab), ("internal/strconv.uint64pow10", laid_internal_strconv_uint64pow10)] }
def DateOrderSaid : Prop := dateOrderRow.holds Tryd.pinned (OpenSpec.ofChange dateOrderSpec)

/-- ITS FALSE NEIGHBOUR: 'it returns false'. Refute it at one input. -/
def dateOrderWrong : ChangeSpec := { name := "dateOrder", fn := fun _ => fun
  | [d1, d2] => { results := [.lit (.bool false)], args := [d1, d2] }
  | _ => none }
def DateOrderWrongFalsely : Prop := dateOrderRow.holds Tryd.pinned (OpenSpec.ofChange dateOrderWrong)

/-- 'bullalaw07.DateTraceWidens': WHATEVER THE INPUT: true; the input reads as it did. -/
def dateTraceWidensSpec : ChangeSpec := { name := "dateTraceWidens", fn := fun _ => fun
  | [d1, d2, d3] => { results := [.lit (.bool true)], args := [d1, d2, d3] }
  | _ => none }
def dateTraceWidensRow : OpenClaim := { program := "ytfchchmmjabjnaadoor", sum := "eea5a2b916133079395412fd96be17b3b7a44df4a9a4903a946682daaf74457a", func := "bulla/bullalaw07.DateTraceWidens", spec := "dateTraceWidens", inPlace := ["internal/abi.NoEscape", "internal/bytealg.MakeNoZero"], unfollowed := true, recurses := true, named := ["internal/strconv.uint64pow10", "math/bits.deBruijn32tab", "math/bits.deBruijn64tab"], plainKeys := false, apart := false, laid := [("math/bits.deBruijn32tab", laid_math_bits_deBruijn32tab), ("math/bits.deBruijn64tab", laid_math_bits_deBruijn64tab), ("internal/strconv.uint64pow10", laid_internal_strconv_uint64pow10)] }
def DateTraceWidensSaid : Prop := dateTraceWidensRow.holds Tryd.pinned (OpenSpec.ofChange dateTraceWidensSpec)

/-- ITS FALSE NEIGHBOUR: 'it returns false'. Refute it at one input. -/
def dateTraceWidensWrong : ChangeSpec := { name := "dateTraceWidens", fn := fun _ => fun
  | [d1, d2, d3] => { results := [.lit (.bool false)], args := [d1, d2, d3] }
  | _ => none }
def DateTraceWidensWrongFalsely : Prop := dateTraceWidensRow.holds Tryd.pinned (OpenSpec.ofChange dateTraceWidensWrong)

/-- 'bullalaw07.DateSeriesNarrows': WHATEVER THE INPUT: true; the input reads as it did. -/
def dateSeriesNarrowsSpec : ChangeSpec := { name := "dateSeriesNarrows", fn := fun _ => fun
  | [d1, d2, d3] => { results := [.lit (.bool true)], args := [d1, d2, d3] }
  | _ => none }
def dateSeriesNarrowsRow : OpenClaim := { program := "ytfchchmmjabjnaadoor", sum := "eea5a2b916133079395412fd96be17b3b7a44df4a9a4903a946682daaf74457a", func := "bulla/bullalaw07.DateSeriesNarrows", spec := "dateSeriesNarrows", inPlace := ["internal/abi.NoEscape", "internal/bytealg.MakeNoZero"], unfollowed := true, recurses := true, named := ["internal/strconv.uint64pow10", "math/bits.deBruijn32tab", "math/bits.deBruijn64tab"], plainKeys := false, apart := false, laid := [("math/bits.deBruijn32tab", laid_math_bits_deBruijn32tab), ("math/bits.deBruijn64tab", laid_math_bits_deBruijn64tab), ("internal/strconv.uint64pow10", laid_internal_strconv_uint64pow10)] }
def DateSeriesNarrowsSaid : Prop := dateSeriesNarrowsRow.holds Tryd.pinned (OpenSpec.ofChange dateSeriesNarrowsSpec)

/-- ITS FALSE NEIGHBOUR: 'it returns false'. Refute it at one input. -/
def dateSeriesNarrowsWrong : ChangeSpec := { name := "dateSeriesNarrows", fn := fun _ => fun
  | [d1, d2, d3] => { results := [.lit (.bool false)], args := [d1, d2, d3] }
  | _ => none }
def DateSeriesNarrowsWrongFalsely : Prop := dateSeriesNarrowsRow.holds Tryd.pinned (OpenSpec.ofChange dateSeriesNarrowsWrong)

/-- 'bullalaw07.DateTraceFits': WHATEVER THE INPUT: true; the input reads as it did. -/
def dateTraceFitsSpec : ChangeSpec := { name := "dateTraceFits", fn := fun _ => fun
  | [d1, d2, d3] => { results := [.lit (.bool true)], args := [d1, d2, d3] }
  | _ => none }
def dateTraceFitsRow : OpenClaim := { program := "ytfchchmmjabjnaadoor", sum := "eea5a2b916133079395412fd96be17b3b7a44df4a9a4903a946682daaf74457a", func := "bulla/bullalaw07.DateTraceFits", spec := "dateTraceFits", inPlace := ["internal/abi.NoEscape", "internal/bytealg.MakeNoZero"], unfollowed := true, recurses := true, named := ["internal/strconv.uint64pow10", "math/bits.deBruijn32tab", "math/bits.deBruijn64tab"], plainKeys := false, apart := false, laid := [("math/bits.deBruijn32tab", laid_math_bits_deBruijn32tab), ("math/bits.deBruijn64tab", laid_math_bits_deBruijn64tab), ("internal/strconv.uint64pow10", laid_internal_strconv_uint64pow10)] }
def DateTraceFitsSaid : Prop := dateTraceFitsRow.holds Tryd.pinned (OpenSpec.ofChange dateTraceFitsSpec)

/-- ITS FALSE NEIGHBOUR: 'it returns false'. Refute it at one input. -/
def dateTraceFitsWrong : ChangeSpec := { name := "dateTraceFits", fn := fun _ => fun
  | [d1, d2, d3] => { results := [.lit (.bool false)], args := [d1, d2, d3] }
  | _ => none }
def DateTraceFitsWrongFalsely : Prop := dateTraceFitsRow.holds Tryd.pinned (OpenSpec.ofChange dateTraceFitsWrong)

/-- 'bullalaw07.DateSpansFit': WHATEVER THE INPUT: true; the input reads as it did. -/
def dateSpansFitSpec : ChangeSpec := { name := "dateSpansFit", fn := fun _ => fun
  | [d1, d2, d3] => { results := [.lit (.bool true)], args := [d1, d2, d3] }
  | _ => none }
def dateSpansFitRow : OpenClaim := { program := "ytfchchmmjabjnaadoor", sum := "eea5a2b916133079395412fd96be17b3b7a44df4a9a4903a946682daaf74457a", func := "bulla/bullalaw07.DateSpansFit", spec := "dateSpansFit", inPlace := ["internal/abi.NoEscape", "internal/bytealg.MakeNoZero"], unfollowed := true, recurses := true, named := ["internal/strconv.uint64pow10", "math/bits.deBruijn32tab", "math/bits.deBruijn64tab"], plainKeys := false, apart := false, laid := [("math/bits.deBruijn32tab", laid_math_bits_deBruijn32tab), ("math/bits.deBruijn64tab", laid_math_bits_deBruijn64tab), ("internal/strconv.uint64pow10", laid_internal_strconv_uint64pow10)] }
def DateSpansFitSaid : Prop := dateSpansFitRow.holds Tryd.pinned (OpenSpec.ofChange dateSpansFitSpec)

/-- ITS FALSE NEIGHBOUR: 'it returns false'. Refute it at one input. -/
def dateSpansFitWrong : ChangeSpec := { name := "dateSpansFit", fn := fun _ => fun
  | [d1, d2, d3] => { results := [.lit (.bool false)], args := [d1, d2, d3] }
  | _ => none }
def DateSpansFitWrongFalsely : Prop := dateSpansFitRow.holds Tryd.pinned (OpenSpec.ofChange dateSpansFitWrong)

/-- 'bullalaw07.DateSeriesHolds': WHATEVER THE INPUT: true; the input reads as it did. -/
def dateSeriesHoldsSpec : ChangeSpec := { name := "dateSeriesHolds", fn := fun _ => fun
  | [d1, d2] => { results := [.lit (.bool true)], args := [d1, d2] }
  | _ => none }
def dateSeriesHoldsRow : OpenClaim := { program := "ytfchchmmjabjnaadoor", sum := "eea5a2b916133079395412fd96be17b3b7a44df4a9a4903a946682daaf74457a", func := "bulla/bullalaw07.DateSeriesHolds", spec := "dateSeriesHolds", inPlace := ["internal/abi.NoEscape", "internal/bytealg.MakeNoZero"], unfollowed := true, recurses := true, named := ["internal/strconv.uint64pow10", "math/bits.deBruijn32tab", "math/bits.deBruijn64tab"], plainKeys := false, apart := false, laid := [("math/bits.deBruijn32tab", laid_math_bits_deBruijn32tab), ("math/bits.deBruijn64tab", laid_math_bits_deBruijn64tab), ("internal/strconv.uint64pow10", laid_internal_strconv_uint64pow10)] }
def DateSeriesHoldsSaid : Prop := dateSeriesHoldsRow.holds Tryd.pinned (OpenSpec.ofChange dateSeriesHoldsSpec)

/-- ITS FALSE NEIGHBOUR: 'it returns false'. Refute it at one input. -/
def dateSeriesHoldsWrong : ChangeSpec := { name := "dateSeriesHolds", fn := fun _ => fun
  | [d1, d2] => { results := [.lit (.bool false)], args := [d1, d2] }
  | _ => none }
def DateSeriesHoldsWrongFalsely : Prop := dateSeriesHoldsRow.holds Tryd.pinned (OpenSpec.ofChange dateSeriesHoldsWrong)

/-- 'bullalaw07.DateSeriesExact': WHATEVER THE INPUT: true; the input reads as it did. -/
def dateSeriesExactSpec : ChangeSpec := { name := "dateSeriesExact", fn := fun _ => fun
  | [d1, d2, d3] => { results := [.lit (.bool true)], args := [d1, d2, d3] }
  | _ => none }
def dateSeriesExactRow : OpenClaim := { program := "ytfchchmmjabjnaadoor", sum := "eea5a2b916133079395412fd96be17b3b7a44df4a9a4903a946682daaf74457a", func := "bulla/bullalaw07.DateSeriesExact", spec := "dateSeriesExact", inPlace := ["internal/abi.NoEscape", "internal/bytealg.MakeNoZero"], unfollowed := true, recurses := true, named := ["internal/strconv.uint64pow10", "math/bits.deBruijn32tab", "math/bits.deBruijn64tab"], plainKeys := false, apart := false, laid := [("math/bits.deBruijn32tab", laid_math_bits_deBruijn32tab), ("math/bits.deBruijn64tab", laid_math_bits_deBruijn64tab), ("internal/strconv.uint64pow10", laid_internal_strconv_uint64pow10)] }
def DateSeriesExactSaid : Prop := dateSeriesExactRow.holds Tryd.pinned (OpenSpec.ofChange dateSeriesExactSpec)

/-- ITS FALSE NEIGHBOUR: 'it returns false'. Refute it at one input. -/
def dateSeriesExactWrong : ChangeSpec := { name := "dateSeriesExact", fn := fun _ => fun
  | [d1, d2, d3] => { results := [.lit (.bool false)], args := [d1, d2, d3] }
  | _ => none }
def DateSeriesExactWrongFalsely : Prop := dateSeriesExactRow.holds Tryd.pinned (OpenSpec.ofChange dateSeriesExactWrong)

/-- 'bullalaw07.DateMoves': WHATEVER THE INPUT: true; the input reads as it did. -/
def dateMovesSpec : ChangeSpec := { name := "dateMoves", fn := fun _ => fun
  | [d1, d2, d3] => { results := [.lit (.bool true)], args := [d1, d2, d3] }
  | _ => none }
def dateMovesRow : OpenClaim := { program := "ytfchchmmjabjnaadoor", sum := "eea5a2b916133079395412fd96be17b3b7a44df4a9a4903a946682daaf74457a", func := "bulla/bullalaw07.DateMoves", spec := "dateMoves", inPlace := ["internal/abi.NoEscape", "internal/bytealg.MakeNoZero"], unfollowed := true, recurses := true, named := ["internal/strconv.uint64pow10", "math/bits.deBruijn32tab", "math/bits.deBruijn64tab"], plainKeys := false, apart := false, laid := [("math/bits.deBruijn32tab", laid_math_bits_deBruijn32tab), ("math/bits.deBruijn64tab", laid_math_bits_deBruijn64tab), ("internal/strconv.uint64pow10", laid_internal_strconv_uint64pow10)] }
def DateMovesSaid : Prop := dateMovesRow.holds Tryd.pinned (OpenSpec.ofChange dateMovesSpec)

/-- ITS FALSE NEIGHBOUR: 'it returns false'. Refute it at one input. -/
def dateMovesWrong : ChangeSpec := { name := "dateMoves", fn := fun _ => fun
  | [d1, d2, d3] => { results := [.lit (.bool false)], args := [d1, d2, d3] }
  | _ => none }
def DateMovesWrongFalsely : Prop := dateMovesRow.holds Tryd.pinned (OpenSpec.ofChange dateMovesWrong)

/-- 'bullalaw07.DateAdds': WHATEVER THE INPUT: true; the input reads as it did. -/
def dateAddsSpec : ChangeSpec := { name := "dateAdds", fn := fun _ => fun
  | [d1, d2, d3] => { results := [.lit (.bool true)], args := [d1, d2, d3] }
  | _ => none }
def dateAddsRow : OpenClaim := { program := "ytfchchmmjabjnaadoor", sum := "eea5a2b916133079395412fd96be17b3b7a44df4a9a4903a946682daaf74457a", func := "bulla/bullalaw07.DateAdds", spec := "dateAdds", inPlace := ["internal/abi.NoEscape", "internal/bytealg.MakeNoZero"], unfollowed := true, recurses := true, named := ["internal/strconv.uint64pow10", "math/bits.deBruijn32tab", "math/bits.deBruijn64tab"], plainKeys := false, apart := false, laid := [("math/bits.deBruijn32tab", laid_math_bits_deBruijn32tab), ("math/bits.deBruijn64tab", laid_math_bits_deBruijn64tab), ("internal/strconv.uint64pow10", laid_internal_strconv_uint64pow10)] }
def DateAddsSaid : Prop := dateAddsRow.holds Tryd.pinned (OpenSpec.ofChange dateAddsSpec)

/-- ITS FALSE NEIGHBOUR: 'it returns false'. Refute it at one input. -/
def dateAddsWrong : ChangeSpec := { name := "dateAdds", fn := fun _ => fun
  | [d1, d2, d3] => { results := [.lit (.bool false)], args := [d1, d2, d3] }
  | _ => none }
def DateAddsWrongFalsely : Prop := dateAddsRow.holds Tryd.pinned (OpenSpec.ofChange dateAddsWrong)

/-- 'bullalaw07.DateTraceTexts': WHATEVER THE INPUT: true; the input reads as it did. -/
def dateTraceTextsSpec : ChangeSpec := { name := "dateTraceTexts", fn := fun _ => fun
  | [d1, d2] => { results := [.lit (.bool true)], args := [d1, d2] }
  | _ => none }
def dateTraceTextsRow : OpenClaim := { program := "ytfchchmmjabjnaadoor", sum := "eea5a2b916133079395412fd96be17b3b7a44df4a9a4903a946682daaf74457a", func := "bulla/bullalaw07.DateTraceTexts", spec := "dateTraceTexts", inPlace := ["internal/abi.NoEscape", "internal/bytealg.MakeNoZero"], unfollowed := true, recurses := true, named := ["internal/strconv.uint64pow10", "math/bits.deBruijn32tab", "math/bits.deBruijn64tab"], plainKeys := false, apart := false, laid := [("math/bits.deBruijn32tab", laid_math_bits_deBruijn32tab), ("math/bits.deBruijn64tab", laid_math_bits_deBruijn64tab), ("internal/strconv.uint64pow10", laid_internal_strconv_uint64pow10)] }
def DateTraceTextsSaid : Prop := dateTraceTextsRow.holds Tryd.pinned (OpenSpec.ofChange dateTraceTextsSpec)

/-- ITS FALSE NEIGHBOUR: 'it returns false'. Refute it at one input. -/
def dateTraceTextsWrong : ChangeSpec := { name := "dateTraceTexts", fn := fun _ => fun
  | [d1, d2] => { results := [.lit (.bool false)], args := [d1, d2] }
  | _ => none }
def DateTraceTextsWrongFalsely : Prop := dateTraceTextsRow.holds Tryd.pinned (OpenSpec.ofChange dateTraceTextsWrong)

/-- 'bullalaw07.DateTraceBack': WHATEVER THE INPUT: true; the input reads as it did. -/
def dateTraceBackSpec : ChangeSpec := { name := "dateTraceBack", fn := fun _ => fun
  | [d1, d2] => { results := [.lit (.bool true)], args := [d1, d2] }
  | _ => none }
def dateTraceBackRow : OpenClaim := { program := "ytfchchmmjabjnaadoor", sum := "eea5a2b916133079395412fd96be17b3b7a44df4a9a4903a946682daaf74457a", func := "bulla/bullalaw07.DateTraceBack", spec := "dateTraceBack", inPlace := ["internal/abi.NoEscape", "internal/bytealg.MakeNoZero"], unfollowed := true, recurses := true, named := ["internal/strconv.uint64pow10", "math/bits.deBruijn32tab", "math/bits.deBruijn64tab"], plainKeys := false, apart := false, laid := [("math/bits.deBruijn32tab", laid_math_bits_deBruijn32tab), ("math/bits.deBruijn64tab", laid_math_bits_deBruijn64tab), ("internal/strconv.uint64pow10", laid_internal_strconv_uint64pow10)] }
def DateTraceBackSaid : Prop := dateTraceBackRow.holds Tryd.pinned (OpenSpec.ofChange dateTraceBackSpec)

/-- ITS FALSE NEIGHBOUR: 'it returns false'. Refute it at one input. -/
def dateTraceBackWrong : ChangeSpec := { name := "dateTraceBack", fn := fun _ => fun
  | [d1, d2] => { results := [.lit (.bool false)], args := [d1, d2] }
  | _ => none }
def DateTraceBackWrongFalsely : Prop := dateTraceBackRow.holds Tryd.pinned (OpenSpec.ofChange dateTraceBackWrong)

/-- 'bullalaw07.DateChecks': WHATEVER THE INPUT: true; the input reads as it did. -/
def dateChecksSpec : ChangeSpec := { name := "dateChecks", fn := fun _ => fun
  | [d1, d2] => { results := [.lit (.bool true)], args := [d1, d2] }
  | _ => none }
def dateChecksRow : OpenClaim := { program := "ytfchchmmjabjnaadoor", sum := "eea5a2b916133079395412fd96be17b3b7a44df4a9a4903a946682daaf74457a", func := "bulla/bullalaw07.DateChecks", spec := "dateChecks", inPlace := ["internal/abi.NoEscape", "internal/bytealg.MakeNoZero"], unfollowed := true, recurses := true, named := ["internal/strconv.uint64pow10", "math/bits.deBruijn32tab", "math/bits.deBruijn64tab"], plainKeys := false, apart := false, laid := [("math/bits.deBruijn32tab", laid_math_bits_deBruijn32tab), ("math/bits.deBruijn64tab", laid_math_bits_deBruijn64tab), ("internal/strconv.uint64pow10", laid_internal_strconv_uint64pow10)] }
def DateChecksSaid : Prop := dateChecksRow.holds Tryd.pinned (OpenSpec.ofChange dateChecksSpec)

/-- ITS FALSE NEIGHBOUR: 'it returns false'. Refute it at one input. -/
def dateChecksWrong : ChangeSpec := { name := "dateChecks", fn := fun _ => fun
  | [d1, d2] => { results := [.lit (.bool false)], args := [d1, d2] }
  | _ => none }
def DateChecksWrongFalsely : Prop := dateChecksRow.holds Tryd.pinned (OpenSpec.ofChange dateChecksWrong)

/-- 'bullalaw07.DateBack': WHATEVER THE INPUT: true; the input reads as it did. -/
def dateBackSpec : ChangeSpec := { name := "dateBack", fn := fun _ => fun
  | [d1, d2] => { results := [.lit (.bool true)], args := [d1, d2] }
  | _ => none }
def dateBackRow : OpenClaim := { program := "ytfchchmmjabjnaadoor", sum := "eea5a2b916133079395412fd96be17b3b7a44df4a9a4903a946682daaf74457a", func := "bulla/bullalaw07.DateBack", spec := "dateBack", inPlace := ["internal/abi.NoEscape", "internal/bytealg.MakeNoZero"], unfollowed := true, recurses := true, named := ["internal/strconv.uint64pow10", "math/bits.deBruijn32tab", "math/bits.deBruijn64tab"], plainKeys := false, apart := false, laid := [("math/bits.deBruijn32tab", laid_math_bits_deBruijn32tab), ("math/bits.deBruijn64tab", laid_math_bits_deBruijn64tab), ("internal/strconv.uint64pow10", laid_internal_strconv_uint64pow10)] }
def DateBackSaid : Prop := dateBackRow.holds Tryd.pinned (OpenSpec.ofChange dateBackSpec)

/-- ITS FALSE NEIGHBOUR: 'it returns false'. Refute it at one input. -/
def dateBackWrong : ChangeSpec := { name := "dateBack", fn := fun _ => fun
  | [d1, d2] => { results := [.lit (.bool false)], args := [d1, d2] }
  | _ => none }
def DateBackWrongFalsely : Prop := dateBackRow.holds Tryd.pinned (OpenSpec.ofChange dateBackWrong)

/-- 'bullatop.TopDates': WHATEVER THE INPUT: true; the input reads as it did. -/
def topDatesSpec : ChangeSpec := { name := "topDates", fn := fun _ => fun
  | [d1, d2, d3] => { results := [.lit (.bool true)], args := [d1, d2, d3] }
  | _ => none }
def topDatesRow : OpenClaim := { program := "ytfchchmmjabjnaadoor", sum := "eea5a2b916133079395412fd96be17b3b7a44df4a9a4903a946682daaf74457a", func := "bulla/bullatop.TopDates", spec := "topDates", inPlace := ["internal/abi.NoEscape", "internal/bytealg.MakeNoZero"], unfollowed := true, recurses := true, named := ["internal/strconv.uint64pow10", "math/bits.deBruijn32tab", "math/bits.deBruijn64tab", "bulla/metro.zero"], plainKeys := false, apart := false, laid := [("math/bits.deBruijn32tab", laid_math_bits_deBruijn32tab), ("math/bits.deBruijn64tab", laid_math_bits_deBruijn64tab), ("bulla/metro.zero", laid_bulla_metro_zero), ("internal/strconv.uint64pow10", laid_internal_strconv_uint64pow10)] }
def TopDatesSaid : Prop := topDatesRow.holds Tryd.pinned (OpenSpec.ofChange topDatesSpec)

/-- ITS FALSE NEIGHBOUR: 'it returns false'. Refute it at one input. -/
def topDatesWrong : ChangeSpec := { name := "topDates", fn := fun _ => fun
  | [d1, d2, d3] => { results := [.lit (.bool false)], args := [d1, d2, d3] }
  | _ => none }
def TopDatesWrongFalsely : Prop := topDatesRow.holds Tryd.pinned (OpenSpec.ofChange topDatesWrong)

/-- 'bullalaw07.DateNames': WHATEVER THE INPUT: true; the input reads as it did. -/
def dateNamesSpec : ChangeSpec := { name := "dateNames", fn := fun _ => fun
  | [d1, d2, d3] => { results := [.lit (.bool true)], args := [d1, d2, d3] }
  | _ => none }
def dateNamesRow : OpenClaim := { program := "ytfchchmmjabjnaadoor", sum := "eea5a2b916133079395412fd96be17b3b7a44df4a9a4903a946682daaf74457a", func := "bulla/bullalaw07.DateNames", spec := "dateNames", inPlace := ["internal/abi.NoEscape", "internal/bytealg.MakeNoZero"], unfollowed := true, recurses := true, named := ["internal/strconv.uint64pow10", "math/bits.deBruijn32tab", "math/bits.deBruijn64tab"], plainKeys := false, apart := false, laid := [("math/bits.deBruijn32tab", laid_math_bits_deBruijn32tab), ("math/bits.deBruijn64tab", laid_math_bits_deBruijn64tab), ("internal/strconv.uint64pow10", laid_internal_strconv_uint64pow10)] }
def DateNamesSaid : Prop := dateNamesRow.holds Tryd.pinned (OpenSpec.ofChange dateNamesSpec)

/-- ITS FALSE NEIGHBOUR: 'it returns false'. Refute it at one input. -/
def dateNamesWrong : ChangeSpec := { name := "dateNames", fn := fun _ => fun
  | [d1, d2, d3] => { results := [.lit (.bool false)], args := [d1, d2, d3] }
  | _ => none }
def DateNamesWrongFalsely : Prop := dateNamesRow.holds Tryd.pinned (OpenSpec.ofChange dateNamesWrong)

/-- 'bullalaw07.DateLengths': WHATEVER THE INPUT: true; the input reads as it did. -/
def dateLengthsSpec : ChangeSpec := { name := "dateLengths", fn := fun _ => fun
  | [d1, d2] => { results := [.lit (.bool true)], args := [d1, d2] }
  | _ => none }
def dateLengthsRow : OpenClaim := { program := "ytfchchmmjabjnaadoor", sum := "eea5a2b916133079395412fd96be17b3b7a44df4a9a4903a946682daaf74457a", func := "bulla/bullalaw07.DateLengths", spec := "dateLengths", inPlace := ["internal/abi.NoEscape", "internal/bytealg.MakeNoZero"], unfollowed := true, recurses := true, named := ["internal/strconv.uint64pow10", "math/bits.deBruijn32tab", "math/bits.deBruijn64tab"], plainKeys := false, apart := false, laid := [("math/bits.deBruijn32tab", laid_math_bits_deBruijn32tab), ("math/bits.deBruijn64tab", laid_math_bits_deBruijn64tab), ("internal/strconv.uint64pow10", laid_internal_strconv_uint64pow10)] }
def DateLengthsSaid : Prop := dateLengthsRow.holds Tryd.pinned (OpenSpec.ofChange dateLengthsSpec)

/-- ITS FALSE NEIGHBOUR: 'it returns false'. Refute it at one input. -/
def dateLengthsWrong : ChangeSpec := { name := "dateLengths", fn := fun _ => fun
  | [d1, d2] => { results := [.lit (.bool false)], args := [d1, d2] }
  | _ => none }
def DateLengthsWrongFalsely : Prop := dateLengthsRow.holds Tryd.pinned (OpenSpec.ofChange dateLengthsWrong)

/-- 'bullalaw07.DateExtends': WHATEVER THE INPUT: true; the input reads as it did. -/
def dateExtendsSpec : ChangeSpec := { name := "dateExtends", fn := fun _ => fun
  | [d1, d2, d3] => { results := [.lit (.bool true)], args := [d1, d2, d3] }
  | _ => none }
def dateExtendsRow : OpenClaim := { program := "ytfchchmmjabjnaadoor", sum := "eea5a2b916133079395412fd96be17b3b7a44df4a9a4903a946682daaf74457a", func := "bulla/bullalaw07.DateExtends", spec := "dateExtends", inPlace := ["internal/abi.NoEscape", "internal/bytealg.MakeNoZero"], unfollowed := true, recurses := true, named := ["internal/strconv.uint64pow10", "math/bits.deBruijn32tab", "math/bits.deBruijn64tab"], plainKeys := false, apart := false, laid := [("math/bits.deBruijn32tab", laid_math_bits_deBruijn32tab), ("math/bits.deBruijn64tab", laid_math_bits_deBruijn64tab), ("internal/strconv.uint64pow10", laid_internal_strconv_uint64pow10)] }
def DateExtendsSaid : Prop := dateExtendsRow.holds Tryd.pinned (OpenSpec.ofChange dateExtendsSpec)

/-- ITS FALSE NEIGHBOUR: 'it returns false'. Refute it at one input. -/
def dateExtendsWrong : ChangeSpec := { name := "dateExtends", fn := fun _ => fun
  | [d1, d2, d3] => { results := [.lit (.bool false)], args := [d1, d2, d3] }
  | _ => none }
def DateExtendsWrongFalsely : Prop := dateExtendsRow.holds Tryd.pinned (OpenSpec.ofChange dateExtendsWrong)

/-- 'bullalaw07.DateWhole': WHATEVER THE INPUT: true; the input reads as it did. -/
def dateWholeSpec : ChangeSpec := { name := "dateWhole", fn := fun _ => fun
  | [d1, d2] => { results := [.lit (.bool true)], args := [d1, d2] }
  | _ => none }
def dateWholeRow : OpenClaim := { program := "ytfchchmmjabjnaadoor", sum := "eea5a2b916133079395412fd96be17b3b7a44df4a9a4903a946682daaf74457a", func := "bulla/bullalaw07.DateWhole", spec := "dateWhole", inPlace := ["internal/abi.NoEscape", "internal/bytealg.MakeNoZero"], unfollowed := true, recurses := true, named := ["internal/strconv.uint64pow10", "math/bits.deBruijn32tab", "math/bits.deBruijn64tab"], plainKeys := false, apart := false, laid := [("math/bits.deBruijn32tab", laid_math_bits_deBruijn32tab), ("math/bits.deBruijn64tab", laid_math_bits_deBruijn64tab), ("internal/strconv.uint64pow10", laid_internal_strconv_uint64pow10)] }
def DateWholeSaid : Prop := dateWholeRow.holds Tryd.pinned (OpenSpec.ofChange dateWholeSpec)

/-- ITS FALSE NEIGHBOUR: 'it returns false'. Refute it at one input. -/
def dateWholeWrong : ChangeSpec := { name := "dateWhole", fn := fun _ => fun
  | [d1, d2] => { results := [.lit (.bool false)], args := [d1, d2] }
  | _ => none }
def DateWholeWrongFalsely : Prop := dateWholeRow.holds Tryd.pinned (OpenSpec.ofChange dateWholeWrong)

/-- 'bullalaw07.DateExtendKeeps': WHATEVER THE INPUT: true; the input reads as it did. -/
def dateExtendKeepsSpec : ChangeSpec := { name := "dateExtendKeeps", fn := fun _ => fun
  | [d1, d2, d3] => { results := [.lit (.bool true)], args := [d1, d2, d3] }
  | _ => none }
def dateExtendKeepsRow : OpenClaim := { program := "ytfchchmmjabjnaadoor", sum := "eea5a2b916133079395412fd96be17b3b7a44df4a9a4903a946682daaf74457a", func := "bulla/bullalaw07.DateExtendKeeps", spec := "dateExtendKeeps", inPlace := ["internal/abi.NoEscape", "internal/bytealg.MakeNoZero"], unfollowed := true, recurses := true, named := ["internal/strconv.uint64pow10", "math/bits.deBruijn32tab", "math/bits.deBruijn64tab"], plainKeys := false, apart := false, laid := [("math/bits.deBruijn32tab", laid_math_bits_deBruijn32tab), ("math/bits.deBruijn64tab", laid_math_bits_deBruijn64tab), ("internal/strconv.uint64pow10", laid_internal_strconv_uint64pow10)] }
def DateExtendKeepsSaid : Prop := dateExtendKeepsRow.holds Tryd.pinned (OpenSpec.ofChange dateExtendKeepsSpec)

/-- ITS FALSE NEIGHBOUR: 'it returns false'. Refute it at one input. -/
def dateExtendKeepsWrong : ChangeSpec := { name := "dateExtendKeeps", fn := fun _ => fun
  | [d1, d2, d3] => { results := [.lit (.bool false)], args := [d1, d2, d3] }
  | _ => none }
def DateExtendKeepsWrongFalsely : Prop := dateExtendKeepsRow.holds Tryd.pinned (OpenSpec.ofChange dateExtendKeepsWrong)

/- THE SECOND FORM. 'bulk': how many values and letters a reading holds, each counted each time it is reached (what is shared counts as often as it is met; a slice's spare places count too). A statement '..UptoSaid' is the law's where the arguments, and the package variables that the reading takes, are together of bulk at most 1048576: NARROWER than '..Said'. Prove '..Said' where nothing that the law and all that it calls make is longer than what came in: it says more and counts as full. Else prove '..UptoSaid'. A law counts once. -/
mutual
def uptoBulk {H : Type} : DataW H → Nat
  | .lit (.string bytes) => bytes.length + 1
  | .lit _ => 1
  | .nil => 1
  | .ptr d => uptoBulk d + 1
  | .slice elems spare => uptoBulkAll elems + uptoBulkAll spare + 1
  | .agg parts => uptoBulkAll parts + 1
  | .iface _ d => uptoBulk d + 1
  | .map entries => uptoBulkEntries entries + 1
  | .held _ => 1
def uptoBulkAll {H : Type} : List (DataW H) → Nat
  | [] => 0
  | d :: r => uptoBulk d + uptoBulkAll r
def uptoBulkEntries {H : Type} : List (Lit × DataW H) → Nat
  | [] => 0
  | x :: r => uptoBulkEntry x + uptoBulkEntries r
def uptoBulkEntry {H : Type} : Lit × DataW H → Nat
  | (.string bytes, d) => bytes.length + uptoBulk d + 1
  | (_, d) => uptoBulk d + 1
 end
def uptoSmall : (H : Type) → List (DataW H) → Bool := fun _ ds => decide (uptoBulkAll ds ≤ 1048576)
def OpenSpec.upto (s : _root_.Go.ChangeSpec) : _root_.Go.OpenSpec := { _root_.Go.OpenSpec.ofChange s with cond := some uptoSmall }

/-- 'bullalaw07.DateSeries', WHERE WHAT IT READS IS OF BULK AT MOST 1048576: true; the input reads as it did. -/
def dateSeriesUptoRow : OpenClaim := { program := "ytfchchmmjabjnaadoor", sum := "eea5a2b916133079395412fd96be17b3b7a44df4a9a4903a946682daaf74457a", func := "bulla/bullalaw07.DateSeries", spec := "dateSeries", inPlace := ["internal/abi.NoEscape", "internal/bytealg.MakeNoZero"], unfollowed := true, recurses := true, named := ["internal/strconv.uint64pow10", "math/bits.deBruijn32tab", "math/bits.deBruijn64tab"], plainKeys := false, apart := false, laid := [("math/bits.deBruijn32tab", laid_math_bits_deBruijn32tab), ("math/bits.deBruijn64tab", laid_math_bits_deBruijn64tab), ("internal/strconv.uint64pow10", laid_internal_strconv_uint64pow10)], narrowed := true }
def DateSeriesUptoSaid : Prop := dateSeriesUptoRow.holds Tryd.pinned (OpenSpec.upto dateSeriesSpec)

/-- 'bullalaw07.DateOrder', WHERE WHAT IT READS IS OF BULK AT MOST 1048576: true; the input reads as it did. -/
def dateOrderUptoRow : OpenClaim := { program := "ytfchchmmjabjnaadoor", sum := "eea5a2b916133079395412fd96be17b3b7a44df4a9a4903a946682daaf74457a", func := "bulla/bullalaw07.DateOrder", spec := "dateOrder", inPlace := ["internal/abi.NoEscape", "internal/bytealg.MakeNoZero"], unfollowed := true, recurses := true, named := ["internal/strconv.uint64pow10", "math/bits.deBruijn32tab", "math/bits.deBruijn64tab"], plainKeys := false, apart := false, laid := [("math/bits.deBruijn32tab", laid_math_bits_deBruijn32tab), ("math/bits.deBruijn64tab", laid_math_bits_deBruijn64tab), ("internal/strconv.uint64pow10", laid_internal_strconv_uint64pow10)], narrowed := true }
def DateOrderUptoSaid : Prop := dateOrderUptoRow.holds Tryd.pinned (OpenSpec.upto dateOrderSpec)

/-- 'bullalaw07.DateTraceWidens', WHERE WHAT IT READS IS OF BULK AT MOST 1048576: true; the input reads as it did. -/
def dateTraceWidensUptoRow : OpenClaim := { program := "ytfchchmmjabjnaadoor", sum := "eea5a2b916133079395412fd96be17b3b7a44df4a9a4903a946682daaf74457a", func := "bulla/bullalaw07.DateTraceWidens", spec := "dateTraceWidens", inPlace := ["internal/abi.NoEscape", "internal/bytealg.MakeNoZero"], unfollowed := true, recurses := true, named := ["internal/strconv.uint64pow10", "math/bits.deBruijn32tab", "math/bits.deBruijn64tab"], plainKeys := false, apart := false, laid := [("math/bits.deBruijn32tab", laid_math_bits_deBruijn32tab), ("math/bits.deBruijn64tab", laid_math_bits_deBruijn64tab), ("internal/strconv.uint64pow10", laid_internal_strconv_uint64pow10)], narrowed := true }
def DateTraceWidensUptoSaid : Prop := dateTraceWidensUptoRow.holds Tryd.pinned (OpenSpec.upto dateTraceWidensSpec)

/-- 'bullalaw07.DateSeriesNarrows', WHERE WHAT IT READS IS OF BULK AT MOST 1048576: true; the input reads as it did. -/
def dateSeriesNarrowsUptoRow : OpenClaim := { program := "ytfchchmmjabjnaadoor", sum := "eea5a2b916133079395412fd96be17b3b7a44df4a9a4903a946682daaf74457a", func := "bulla/bullalaw07.DateSeriesNarrows", spec := "dateSeriesNarrows", inPlace := ["internal/abi.NoEscape", "internal/bytealg.MakeNoZero"], unfollowed := true, recurses := true, named := ["internal/strconv.uint64pow10", "math/bits.deBruijn32tab", "math/bits.deBruijn64tab"], plainKeys := false, apart := false, laid := [("math/bits.deBruijn32tab", laid_math_bits_deBruijn32tab), ("math/bits.deBruijn64tab", laid_math_bits_deBruijn64tab), ("internal/strconv.uint64pow10", laid_internal_strconv_uint64pow10)], narrowed := true }
def DateSeriesNarrowsUptoSaid : Prop := dateSeriesNarrowsUptoRow.holds Tryd.pinned (OpenSpec.upto dateSeriesNarrowsSpec)

/-- 'bullalaw07.DateTraceFits', WHERE WHAT IT READS IS OF BULK AT MOST 1048576: true; the input reads as it did. -/
def dateTraceFitsUptoRow : OpenClaim := { program := "ytfchchmmjabjnaadoor", sum := "eea5a2b916133079395412fd96be17b3b7a44df4a9a4903a946682daaf74457a", func := "bulla/bullalaw07.DateTraceFits", spec := "dateTraceFits", inPlace := ["internal/abi.NoEscape", "internal/bytealg.MakeNoZero"], unfollowed := true, recurses := true, named := ["internal/strconv.uint64pow10", "math/bits.deBruijn32tab", "math/bits.deBruijn64tab"], plainKeys := false, apart := false, laid := [("math/bits.deBruijn32tab", laid_math_bits_deBruijn32tab), ("math/bits.deBruijn64tab", laid_math_bits_deBruijn64tab), ("internal/strconv.uint64pow10", laid_internal_strconv_uint64pow10)], narrowed := true }
def DateTraceFitsUptoSaid : Prop := dateTraceFitsUptoRow.holds Tryd.pinned (OpenSpec.upto dateTraceFitsSpec)

/-- 'bullalaw07.DateSpansFit', WHERE WHAT IT READS IS OF BULK AT MOST 1048576: true; the input reads as it did. -/
def dateSpansFitUptoRow : OpenClaim := { program := "ytfchchmmjabjnaadoor", sum := "eea5a2b916133079395412fd96be17b3b7a44df4a9a4903a946682daaf74457a", func := "bulla/bullalaw07.DateSpansFit", spec := "dateSpansFit", inPlace := ["internal/abi.NoEscape", "internal/bytealg.MakeNoZero"], unfollowed := true, recurses := true, named := ["internal/strconv.uint64pow10", "math/bits.deBruijn32tab", "math/bits.deBruijn64tab"], plainKeys := false, apart := false, laid := [("math/bits.deBruijn32tab", laid_math_bits_deBruijn32tab), ("math/bits.deBruijn64tab", laid_math_bits_deBruijn64tab), ("internal/strconv.uint64pow10", laid_internal_strconv_uint64pow10)], narrowed := true }
def DateSpansFitUptoSaid : Prop := dateSpansFitUptoRow.holds Tryd.pinned (OpenSpec.upto dateSpansFitSpec)

/-- 'bullalaw07.DateSeriesHolds', WHERE WHAT IT READS IS OF BULK AT MOST 1048576: true; the input reads as it did. -/
def dateSeriesHoldsUptoRow : OpenClaim := { program := "ytfchchmmjabjnaadoor", sum := "eea5a2b916133079395412fd96be17b3b7a44df4a9a4903a946682daaf74457a", func := "bulla/bullalaw07.DateSeriesHolds", spec := "dateSeriesHolds", inPlace := ["internal/abi.NoEscape", "internal/bytealg.MakeNoZero"], unfollowed := true, recurses := true, named := ["internal/strconv.uint64pow10", "math/bits.deBruijn32tab", "math/bits.deBruijn64tab"], plainKeys := false, apart := false, laid := [("math/bits.deBruijn32tab", laid_math_bits_deBruijn32tab), ("math/bits.deBruijn64tab", laid_math_bits_deBruijn64tab), ("internal/strconv.uint64pow10", laid_internal_strconv_uint64pow10)], narrowed := true }
def DateSeriesHoldsUptoSaid : Prop := dateSeriesHoldsUptoRow.holds Tryd.pinned (OpenSpec.upto dateSeriesHoldsSpec)

/-- 'bullalaw07.DateSeriesExact', WHERE WHAT IT READS IS OF BULK AT MOST 1048576: true; the input reads as it did. -/
def dateSeriesExactUptoRow : OpenClaim := { program := "ytfchchmmjabjnaadoor", sum := "eea5a2b916133079395412fd96be17b3b7a44df4a9a4903a946682daaf74457a", func := "bulla/bullalaw07.DateSeriesExact", spec := "dateSeriesExact", inPlace := ["internal/abi.NoEscape", "internal/bytealg.MakeNoZero"], unfollowed := true, recurses := true, named := ["internal/strconv.uint64pow10", "math/bits.deBruijn32tab", "math/bits.deBruijn64tab"], plainKeys := false, apart := false, laid := [("math/bits.deBruijn32tab", laid_math_bits_deBruijn32tab), ("math/bits.deBruijn64tab", laid_math_bits_deBruijn64tab), ("internal/strconv.uint64pow10", laid_internal_strconv_uint64pow10)], narrowed := true }
def DateSeriesExactUptoSaid : Prop := dateSeriesExactUptoRow.holds Tryd.pinned (OpenSpec.upto dateSeriesExactSpec)

/-- 'bullalaw07.DateMoves', WHERE WHAT IT READS IS OF BULK AT MOST 1048576: true; the input reads as it did. -/
def dateMovesUptoRow : OpenClaim := { program := "ytfchchmmjabjnaadoor", sum := "eea5a2b916133079395412fd96be17b3b7a44df4a9a4903a946682daaf74457a", func := "bulla/bullalaw07.DateMoves", spec := "dateMoves", inPlace := ["internal/abi.NoEscape", "internal/bytealg.MakeNoZero"], unfollowed := true, recurses := true, named := ["internal/strconv.uint64pow10", "math/bits.deBruijn32tab", "math/bits.deBruijn64tab"], plainKeys := false, apart := false, laid := [("math/bits.deBruijn32tab", laid_math_bits_deBruijn32tab), ("math/bits.deBruijn64tab", laid_math_bits_deBruijn64tab), ("internal/strconv.uint64pow10", laid_internal_strconv_uint64pow10)], narrowed := true }
def DateMovesUptoSaid : Prop := dateMovesUptoRow.holds Tryd.pinned (OpenSpec.upto dateMovesSpec)

/-- 'bullalaw07.DateAdds', WHERE WHAT IT READS IS OF BULK AT MOST 1048576: true; the input reads as it did. -/
def dateAddsUptoRow : OpenClaim := { program := "ytfchchmmjabjnaadoor", sum := "eea5a2b916133079395412fd96be17b3b7a44df4a9a4903a946682daaf74457a", func := "bulla/bullalaw07.DateAdds", spec := "dateAdds", inPlace := ["internal/abi.NoEscape", "internal/bytealg.MakeNoZero"], unfollowed := true, recurses := true, named := ["internal/strconv.uint64pow10", "math/bits.deBruijn32tab", "math/bits.deBruijn64tab"], plainKeys := false, apart := false, laid := [("math/bits.deBruijn32tab", laid_math_bits_deBruijn32tab), ("math/bits.deBruijn64tab", laid_math_bits_deBruijn64tab), ("internal/strconv.uint64pow10", laid_internal_strconv_uint64pow10)], narrowed := true }
def DateAddsUptoSaid : Prop := dateAddsUptoRow.holds Tryd.pinned (OpenSpec.upto dateAddsSpec)

/-- 'bullalaw07.DateTraceTexts', WHERE WHAT IT READS IS OF BULK AT MOST 1048576: true; the input reads as it did. -/
def dateTraceTextsUptoRow : OpenClaim := { program := "ytfchchmmjabjnaadoor", sum := "eea5a2b916133079395412fd96be17b3b7a44df4a9a4903a946682daaf74457a", func := "bulla/bullalaw07.DateTraceTexts", spec := "dateTraceTexts", inPlace := ["internal/abi.NoEscape", "internal/bytealg.MakeNoZero"], unfollowed := true, recurses := true, named := ["internal/strconv.uint64pow10", "math/bits.deBruijn32tab", "math/bits.deBruijn64tab"], plainKeys := false, apart := false, laid := [("math/bits.deBruijn32tab", laid_math_bits_deBruijn32tab), ("math/bits.deBruijn64tab", laid_math_bits_deBruijn64tab), ("internal/strconv.uint64pow10", laid_internal_strconv_uint64pow10)], narrowed := true }
def DateTraceTextsUptoSaid : Prop := dateTraceTextsUptoRow.holds Tryd.pinned (OpenSpec.upto dateTraceTextsSpec)

/-- 'bullalaw07.DateTraceBack', WHERE WHAT IT READS IS OF BULK AT MOST 1048576: true; the input reads as it did. -/
def dateTraceBackUptoRow : OpenClaim := { program := "ytfchchmmjabjnaadoor", sum := "eea5a2b916133079395412fd96be17b3b7a44df4a9a4903a946682daaf74457a", func := "bulla/bullalaw07.DateTraceBack", spec := "dateTraceBack", inPlace := ["internal/abi.NoEscape", "internal/bytealg.MakeNoZero"], unfollowed := true, recurses := true, named := ["internal/strconv.uint64pow10", "math/bits.deBruijn32tab", "math/bits.deBruijn64tab"], plainKeys := false, apart := false, laid := [("math/bits.deBruijn32tab", laid_math_bits_deBruijn32tab), ("math/bits.deBruijn64tab", laid_math_bits_deBruijn64tab), ("internal/strconv.uint64pow10", laid_internal_strconv_uint64pow10)], narrowed := true }
def DateTraceBackUptoSaid : Prop := dateTraceBackUptoRow.holds Tryd.pinned (OpenSpec.upto dateTraceBackSpec)

/-- 'bullalaw07.DateChecks', WHERE WHAT IT READS IS OF BULK AT MOST 1048576: true; the input reads as it did. -/
def dateChecksUptoRow : OpenClaim := { program := "ytfchchmmjabjnaadoor", sum := "eea5a2b916133079395412fd96be17b3b7a44df4a9a4903a946682daaf74457a", func := "bulla/bullalaw07.DateChecks", spec := "dateChecks", inPlace := ["internal/abi.NoEscape", "internal/bytealg.MakeNoZero"], unfollowed := true, recurses := true, named := ["internal/strconv.uint64pow10", "math/bits.deBruijn32tab", "math/bits.deBruijn64tab"], plainKeys := false, apart := false, laid := [("math/bits.deBruijn32tab", laid_math_bits_deBruijn32tab), ("math/bits.deBruijn64tab", laid_math_bits_deBruijn64tab), ("internal/strconv.uint64pow10", laid_internal_strconv_uint64pow10)], narrowed := true }
def DateChecksUptoSaid : Prop := dateChecksUptoRow.holds Tryd.pinned (OpenSpec.upto dateChecksSpec)

/-- 'bullalaw07.DateBack', WHERE WHAT IT READS IS OF BULK AT MOST 1048576: true; the input reads as it did. -/
def dateBackUptoRow : OpenClaim := { program := "ytfchchmmjabjnaadoor", sum := "eea5a2b916133079395412fd96be17b3b7a44df4a9a4903a946682daaf74457a", func := "bulla/bullalaw07.DateBack", spec := "dateBack", inPlace := ["internal/abi.NoEscape", "internal/bytealg.MakeNoZero"], unfollowed := true, recurses := true, named := ["internal/strconv.uint64pow10", "math/bits.deBruijn32tab", "math/bits.deBruijn64tab"], plainKeys := false, apart := false, laid := [("math/bits.deBruijn32tab", laid_math_bits_deBruijn32tab), ("math/bits.deBruijn64tab", laid_math_bits_deBruijn64tab), ("internal/strconv.uint64pow10", laid_internal_strconv_uint64pow10)], narrowed := true }
def DateBackUptoSaid : Prop := dateBackUptoRow.holds Tryd.pinned (OpenSpec.upto dateBackSpec)

/-- 'bullatop.TopDates', WHERE WHAT IT READS IS OF BULK AT MOST 1048576: true; the input reads as it did. -/
def topDatesUptoRow : OpenClaim := { program := "ytfchchmmjabjnaadoor", sum := "eea5a2b916133079395412fd96be17b3b7a44df4a9a4903a946682daaf74457a", func := "bulla/bullatop.TopDates", spec := "topDates", inPlace := ["internal/abi.NoEscape", "internal/bytealg.MakeNoZero"], unfollowed := true, recurses := true, named := ["internal/strconv.uint64pow10", "math/bits.deBruijn32tab", "math/bits.deBruijn64tab", "bulla/metro.zero"], plainKeys := false, apart := false, laid := [("math/bits.deBruijn32tab", laid_math_bits_deBruijn32tab), ("math/bits.deBruijn64tab", laid_math_bits_deBruijn64tab), ("bulla/metro.zero", laid_bulla_metro_zero), ("internal/strconv.uint64pow10", laid_internal_strconv_uint64pow10)], narrowed := true }
def TopDatesUptoSaid : Prop := topDatesUptoRow.holds Tryd.pinned (OpenSpec.upto topDatesSpec)

/-- 'bullalaw07.DateNames', WHERE WHAT IT READS IS OF BULK AT MOST 1048576: true; the input reads as it did. -/
def dateNamesUptoRow : OpenClaim := { program := "ytfchchmmjabjnaadoor", sum := "eea5a2b916133079395412fd96be17b3b7a44df4a9a4903a946682daaf74457a", func := "bulla/bullalaw07.DateNames", spec := "dateNames", inPlace := ["internal/abi.NoEscape", "internal/bytealg.MakeNoZero"], unfollowed := true, recurses := true, named := ["internal/strconv.uint64pow10", "math/bits.deBruijn32tab", "math/bits.deBruijn64tab"], plainKeys := false, apart := false, laid := [("math/bits.deBruijn32tab", laid_math_bits_deBruijn32tab), ("math/bits.deBruijn64tab", laid_math_bits_deBruijn64tab), ("internal/strconv.uint64pow10", laid_internal_strconv_uint64pow10)], narrowed := true }
def DateNamesUptoSaid : Prop := dateNamesUptoRow.holds Tryd.pinned (OpenSpec.upto dateNamesSpec)

/-- 'bullalaw07.DateLengths', WHERE WHAT IT READS IS OF BULK AT MOST 1048576: true; the input reads as it did. -/
def dateLengthsUptoRow : OpenClaim := { program := "ytfchchmmjabjnaadoor", sum := "eea5a2b916133079395412fd96be17b3b7a44df4a9a4903a946682daaf74457a", func := "bulla/bullalaw07.DateLengths", spec := "dateLengths", inPlace := ["internal/abi.NoEscape", "internal/bytealg.MakeNoZero"], unfollowed := true, recurses := true, named := ["internal/strconv.uint64pow10", "math/bits.deBruijn32tab", "math/bits.deBruijn64tab"], plainKeys := false, apart := false, laid := [("math/bits.deBruijn32tab", laid_math_bits_deBruijn32tab), ("math/bits.deBruijn64tab", laid_math_bits_deBruijn64tab), ("internal/strconv.uint64pow10", laid_internal_strconv_uint64pow10)], narrowed := true }
def DateLengthsUptoSaid : Prop := dateLengthsUptoRow.holds Tryd.pinned (OpenSpec.upto dateLengthsSpec)

/-- 'bullalaw07.DateExtends', WHERE WHAT IT READS IS OF BULK AT MOST 1048576: true; the input reads as it did. -/
def dateExtendsUptoRow : OpenClaim := { program := "ytfchchmmjabjnaadoor", sum := "eea5a2b916133079395412fd96be17b3b7a44df4a9a4903a946682daaf74457a", func := "bulla/bullalaw07.DateExtends", spec := "dateExtends", inPlace := ["internal/abi.NoEscape", "internal/bytealg.MakeNoZero"], unfollowed := true, recurses := true, named := ["internal/strconv.uint64pow10", "math/bits.deBruijn32tab", "math/bits.deBruijn64tab"], plainKeys := false, apart := false, laid := [("math/bits.deBruijn32tab", laid_math_bits_deBruijn32tab), ("math/bits.deBruijn64tab", laid_math_bits_deBruijn64tab), ("internal/strconv.uint64pow10", laid_internal_strconv_uint64pow10)], narrowed := true }
def DateExtendsUptoSaid : Prop := dateExtendsUptoRow.holds Tryd.pinned (OpenSpec.upto dateExtendsSpec)

/-- 'bullalaw07.DateWhole', WHERE WHAT IT READS IS OF BULK AT MOST 1048576: true; the input reads as it did. -/
def dateWholeUptoRow : OpenClaim := { program := "ytfchchmmjabjnaadoor", sum := "eea5a2b916133079395412fd96be17b3b7a44df4a9a4903a946682daaf74457a", func := "bulla/bullalaw07.DateWhole", spec := "dateWhole", inPlace := ["internal/abi.NoEscape", "internal/bytealg.MakeNoZero"], unfollowed := true, recurses := true, named := ["internal/strconv.uint64pow10", "math/bits.deBruijn32tab", "math/bits.deBruijn64tab"], plainKeys := false, apart := false, laid := [("math/bits.deBruijn32tab", laid_math_bits_deBruijn32tab), ("math/bits.deBruijn64tab", laid_math_bits_deBruijn64tab), ("internal/strconv.uint64pow10", laid_internal_strconv_uint64pow10)], narrowed := true }
def DateWholeUptoSaid : Prop := dateWholeUptoRow.holds Tryd.pinned (OpenSpec.upto dateWholeSpec)

/-- 'bullalaw07.DateExtendKeeps', WHERE WHAT IT READS IS OF BULK AT MOST 1048576: true; the input reads as it did. -/
def dateExtendKeepsUptoRow : OpenClaim := { program := "ytfchchmmjabjnaadoor", sum := "eea5a2b916133079395412fd96be17b3b7a44df4a9a4903a946682daaf74457a", func := "bulla/bullalaw07.DateExtendKeeps", spec := "dateExtendKeeps", inPlace := ["internal/abi.NoEscape", "internal/bytealg.MakeNoZero"], unfollowed := true, recurses := true, named := ["internal/strconv.uint64pow10", "math/bits.deBruijn32tab", "math/bits.deBruijn64tab"], plainKeys := false, apart := false, laid := [("math/bits.deBruijn32tab", laid_math_bits_deBruijn32tab), ("math/bits.deBruijn64tab", laid_math_bits_deBruijn64tab), ("internal/strconv.uint64pow10", laid_internal_strconv_uint64pow10)], narrowed := true }
def DateExtendKeepsUptoSaid : Prop := dateExtendKeepsUptoRow.holds Tryd.pinned (OpenSpec.upto dateExtendKeepsSpec)

end Rows
end Go.Proofs.YtfchchmmjabjnaaDoor
