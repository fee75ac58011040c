/- Closed facts on the whole program that every row of this seat asks; no conditions. -/
import Derived.Test.YtfchchmmjabjnaaDoorFr
import Derived.JoinedCond
set_option maxRecDepth 100000
namespace Go.Proofs.YtfchchmmjabjnaaDoor
open Go Go.ChangeShapes Go.WideShapes Go.ChangeAt Go.RowKit
theorem sh_laid : laidOutB Tryd.prog = true := by kernel_rfl
theorem sh_maps : mapsRowed Tryd.prog = true := by kernel_rfl
theorem sh_keys : Tryd.prog.plainKeys = false := by kernel_rfl
theorem sh_heard : Tryd.prog.stopsHeard = true := by kernel_rfl
theorem sh_may : Tryd.prog.mayEnter = true := by kernel_rfl
theorem sh_lift : Tryd.prog.liftsFinal = Rows.dateOrderRow.lifted := by kernel_rfl
theorem sh_make : Tryd.prog.make = some Rows.dateOrderRow.make := by kernel_rfl
end Go.Proofs.YtfchchmmjabjnaaDoor
