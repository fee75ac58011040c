/- '==' and '!=' on structs, each as one Bool; no conditions. -/
import Derived.Test.YtfchchmmjabjnaaDoorW2
import Derived.Laws.StructEq
namespace Go.Proofs.YtfchchmmjabjnaaDoor
open Go Go.RowKit

set_option maxRecDepth 100000 in
theorem eqIn_month (w : World) (x0 y0 : Int) (x1 y1 : Int) (x2 y2 : Bool) : (Op.equalIn 10000 113 (.agg #[.int .i64 x0, .int .i64 x1, .bool x2]) (.agg #[.int .i64 y0, .int .i64 y1, .bool y2])).run Tryd.prog w = .ok ((x0 == y0) && ((x1 == y1) && (x2 == y2))) w := by
  go_simp
  by_cases h0 : x0 = y0
  rotate_left
  · simp [h0]
  by_cases h1 : x1 = y1
  rotate_left
  · simp [h1]
  by_cases h2 : x2 = y2
  rotate_left
  · simp [h2]
  simp [h0, h1, h2]
theorem eql_month (w : World) (x0 y0 : Int) (x1 y1 : Int) (x2 y2 : Bool) : (binOp .eql 113 (.agg #[.int .i64 x0, .int .i64 x1, .bool x2]) (.agg #[.int .i64 y0, .int .i64 y1, .bool y2])).run Tryd.prog w = .ok (.bool ((x0 == y0) && ((x1 == y1) && (x2 == y2)))) w := by rw [run_eql_struct, eqIn_month]; rfl
theorem neq_month (w : World) (x0 y0 : Int) (x1 y1 : Int) (x2 y2 : Bool) : (binOp .neq 113 (.agg #[.int .i64 x0, .int .i64 x1, .bool x2]) (.agg #[.int .i64 y0, .int .i64 y1, .bool y2])).run Tryd.prog w = .ok (.bool (!((x0 == y0) && ((x1 == y1) && (x2 == y2))))) w := by rw [run_neq_struct, eqIn_month]; rfl
set_option maxRecDepth 100000 in
theorem eqIn_date (w : World) (x0 y0 : Int) (x1 y1 : Int) (x2 y2 : Bool) (x3 y3 : Int) : (Op.equalIn 10000 39 (.agg #[.int .i64 x0, .int .i64 x1, .bool x2, .int .i64 x3]) (.agg #[.int .i64 y0, .int .i64 y1, .bool y2, .int .i64 y3])).run Tryd.prog w = .ok ((x0 == y0) && ((x1 == y1) && ((x2 == y2) && (x3 == y3)))) w := by
  go_simp
  by_cases h0 : x0 = y0
  rotate_left
  · simp [h0]
  by_cases h1 : x1 = y1
  rotate_left
  · simp [h1]
  by_cases h2 : x2 = y2
  rotate_left
  · simp [h2]
  by_cases h3 : x3 = y3
  rotate_left
  · simp [h3]
  simp [h0, h1, h2, h3]
theorem eql_date (w : World) (x0 y0 : Int) (x1 y1 : Int) (x2 y2 : Bool) (x3 y3 : Int) : (binOp .eql 39 (.agg #[.int .i64 x0, .int .i64 x1, .bool x2, .int .i64 x3]) (.agg #[.int .i64 y0, .int .i64 y1, .bool y2, .int .i64 y3])).run Tryd.prog w = .ok (.bool ((x0 == y0) && ((x1 == y1) && ((x2 == y2) && (x3 == y3))))) w := by rw [run_eql_struct, eqIn_date]; rfl
theorem neq_date (w : World) (x0 y0 : Int) (x1 y1 : Int) (x2 y2 : Bool) (x3 y3 : Int) : (binOp .neq 39 (.agg #[.int .i64 x0, .int .i64 x1, .bool x2, .int .i64 x3]) (.agg #[.int .i64 y0, .int .i64 y1, .bool y2, .int .i64 y3])).run Tryd.prog w = .ok (.bool (!((x0 == y0) && ((x1 == y1) && ((x2 == y2) && (x3 == y3)))))) w := by rw [run_neq_struct, eqIn_date]; rfl
set_option maxRecDepth 100000 in
theorem eqIn_span (w : World) (x0 y0 : Int) (x1 y1 : Int) : (Op.equalIn 10000 52 (.agg #[.int .i64 x0, .int .i64 x1]) (.agg #[.int .i64 y0, .int .i64 y1])).run Tryd.prog w = .ok ((x0 == y0) && (x1 == y1)) w := by
  go_simp
  by_cases h0 : x0 = y0
  rotate_left
  · simp [h0]
  by_cases h1 : x1 = y1
  rotate_left
  · simp [h1]
  simp [h0, h1]
theorem eql_span (w : World) (x0 y0 : Int) (x1 y1 : Int) : (binOp .eql 52 (.agg #[.int .i64 x0, .int .i64 x1]) (.agg #[.int .i64 y0, .int .i64 y1])).run Tryd.prog w = .ok (.bool ((x0 == y0) && (x1 == y1))) w := by rw [run_eql_struct, eqIn_span]; rfl
theorem neq_span (w : World) (x0 y0 : Int) (x1 y1 : Int) : (binOp .neq 52 (.agg #[.int .i64 x0, .int .i64 x1]) (.agg #[.int .i64 y0, .int .i64 y1])).run Tryd.prog w = .ok (.bool (!((x0 == y0) && (x1 == y1)))) w := by rw [run_neq_struct, eqIn_span]; rfl
set_option maxRecDepth 100000 in
theorem eqIn_trace (w : World) (x0 y0 : Int) (x1 y1 : Bool) (x2 y2 : Int) (x3 y3 : Bool) (x4 y4 : ByteArray) (x5 y5 : Int) (x6 y6 : ByteArray) : (Op.equalIn 10000 33 (.agg #[.int .i64 x0, .bool x1, .int .i64 x2, .bool x3, .string x4, .int .i64 x5, .string x6]) (.agg #[.int .i64 y0, .bool y1, .int .i64 y2, .bool y3, .string y4, .int .i64 y5, .string y6])).run Tryd.prog w = .ok ((x0 == y0) && ((x1 == y1) && ((x2 == y2) && ((x3 == y3) && ((x4.toList == y4.toList) && ((x5 == y5) && (x6.toList == y6.toList))))))) w := by
  go_simp
  by_cases h0 : x0 = y0
  rotate_left
  · simp [h0]
  by_cases h1 : x1 = y1
  rotate_left
  · simp [h1]
  by_cases h2 : x2 = y2
  rotate_left
  · simp [h2]
  by_cases h3 : x3 = y3
  rotate_left
  · simp [h3]
  by_cases h4 : x4.toList = y4.toList
  rotate_left
  · simp [h4]
  by_cases h5 : x5 = y5
  rotate_left
  · simp [h5]
  by_cases h6 : x6.toList = y6.toList
  rotate_left
  · simp [h6]
  simp [h0, h1, h2, h3, h4, h5, h6]
theorem eql_trace (w : World) (x0 y0 : Int) (x1 y1 : Bool) (x2 y2 : Int) (x3 y3 : Bool) (x4 y4 : ByteArray) (x5 y5 : Int) (x6 y6 : ByteArray) : (binOp .eql 33 (.agg #[.int .i64 x0, .bool x1, .int .i64 x2, .bool x3, .string x4, .int .i64 x5, .string x6]) (.agg #[.int .i64 y0, .bool y1, .int .i64 y2, .bool y3, .string y4, .int .i64 y5, .string y6])).run Tryd.prog w = .ok (.bool ((x0 == y0) && ((x1 == y1) && ((x2 == y2) && ((x3 == y3) && ((x4.toList == y4.toList) && ((x5 == y5) && (x6.toList == y6.toList)))))))) w := by rw [run_eql_struct, eqIn_trace]; rfl
theorem neq_trace (w : World) (x0 y0 : Int) (x1 y1 : Bool) (x2 y2 : Int) (x3 y3 : Bool) (x4 y4 : ByteArray) (x5 y5 : Int) (x6 y6 : ByteArray) : (binOp .neq 33 (.agg #[.int .i64 x0, .bool x1, .int .i64 x2, .bool x3, .string x4, .int .i64 x5, .string x6]) (.agg #[.int .i64 y0, .bool y1, .int .i64 y2, .bool y3, .string y4, .int .i64 y5, .string y6])).run Tryd.prog w = .ok (.bool (!((x0 == y0) && ((x1 == y1) && ((x2 == y2) && ((x3 == y3) && ((x4.toList == y4.toList) && ((x5 == y5) && (x6.toList == y6.toList))))))))) w := by rw [run_neq_struct, eqIn_trace]; rfl
set_option maxRecDepth 100000 in
theorem eqIn_year (w : World) (x0 y0 : Int) (x1 y1 : ByteArray) (x2 y2 : Int) (x3 y3 : Int) : (Op.equalIn 10000 99 (.agg #[.int .i64 x0, .string x1, .int .i64 x2, .int .i64 x3]) (.agg #[.int .i64 y0, .string y1, .int .i64 y2, .int .i64 y3])).run Tryd.prog w = .ok ((x0 == y0) && ((x1.toList == y1.toList) && ((x2 == y2) && (x3 == y3)))) w := by
  go_simp
  by_cases h0 : x0 = y0
  rotate_left
  · simp [h0]
  by_cases h1 : x1.toList = y1.toList
  rotate_left
  · simp [h1]
  by_cases h2 : x2 = y2
  rotate_left
  · simp [h2]
  by_cases h3 : x3 = y3
  rotate_left
  · simp [h3]
  simp [h0, h1, h2, h3]
theorem eql_year (w : World) (x0 y0 : Int) (x1 y1 : ByteArray) (x2 y2 : Int) (x3 y3 : Int) : (binOp .eql 99 (.agg #[.int .i64 x0, .string x1, .int .i64 x2, .int .i64 x3]) (.agg #[.int .i64 y0, .string y1, .int .i64 y2, .int .i64 y3])).run Tryd.prog w = .ok (.bool ((x0 == y0) && ((x1.toList == y1.toList) && ((x2 == y2) && (x3 == y3))))) w := by rw [run_eql_struct, eqIn_year]; rfl
theorem neq_year (w : World) (x0 y0 : Int) (x1 y1 : ByteArray) (x2 y2 : Int) (x3 y3 : Int) : (binOp .neq 99 (.agg #[.int .i64 x0, .string x1, .int .i64 x2, .int .i64 x3]) (.agg #[.int .i64 y0, .string y1, .int .i64 y2, .int .i64 y3])).run Tryd.prog w = .ok (.bool (!((x0 == y0) && ((x1.toList == y1.toList) && ((x2 == y2) && (x3 == y3)))))) w := by rw [run_neq_struct, eqIn_year]; rfl
end Go.Proofs.YtfchchmmjabjnaaDoor
