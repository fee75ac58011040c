/- A world for the witnesses: the tables hold what their initialisers lay; no conditions. -/
import Derived.Test.YtfchchmmjabjnaaDoorOp
import Derived.Test.YtfchchmmjabjnaaDoorCards
import Derived.Test.YtfchchmmjabjnaaDoorTie
import Derived.LaidMore
import Derived.Deep.DeepLaidRun
import Derived.Deep.DeepHandedRow
import Derived.Lib.LaidTab
set_option maxRecDepth 100000
namespace Go.Proofs.YtfchchmmjabjnaaDoor
open Go Go.ChangeShapes Go.WideShapes Go.ChangeAt Go.RowKit

theorem laid_met (os : Os) (args : Array Value) : laidMet Tryd.prog Rows.dateOrderRow.laid ((World.doorLaid Tryd.prog 29 os).forCall (fun _ _ => 0) ⟨#[], args, []⟩).memory :=
  laidMet_of_run3 8 (by kernel_rfl) (by kernel_rfl) (by kernel_rfl)
end Go.Proofs.YtfchchmmjabjnaaDoor
