/- A world for the witnesses: the tables hold what their initialisers lay; closed facts on the whole program that every row of this seat asks; no conditions. -/
import Derived.Test.YtneiofnlmblglaaDoorU1
import Derived.Test.YtneiofnlmblglaaDoorCards
import Derived.Test.YtneiofnlmblglaaDoorTie
import Derived.LaidMore
import Derived.Deep.DeepLaidRun
import Derived.Deep.DeepHandedRow
import Derived.Lib.LaidTab
import Derived.JoinedCond
set_option maxRecDepth 100000
set_option maxHeartbeats 4000000
set_option maxRecDepth 100000
namespace Go.Proofs.YtneiofnlmblglaaDoor
open Go Go.ChangeShapes Go.WideShapes Go.ChangeAt Go.RowKit
theorem laid_met (os : Os) (args : Array Value) : laidMet Tryd.prog Rows.ledgerDivideJoinsRow.laid ((World.doorLaid Tryd.prog 29 os).forCall (fun _ _ => 0) ⟨#[], args, []⟩).memory :=
 laidMet_of_run3 8 (by kernel_rfl) (by kernel_rfl) (by kernel_rfl)
theorem sh_laid : laidOutB Tryd.prog = true := by kernel_rfl
theorem sh_maps : mapsRowed Tryd.prog = true := by kernel_rfl
theorem sh_keys : Tryd.prog.plainKeys = false := by kernel_rfl
theorem sh_heard : Tryd.prog.stopsHeard = true := by kernel_rfl
theorem sh_may : Tryd.prog.mayEnter = true := by kernel_rfl
theorem sh_lift : Tryd.prog.liftsFinal = Rows.ledgerDivideJoinsRow.lifted := by kernel_rfl
theorem sh_make : Tryd.prog.make = some Rows.ledgerDivideJoinsRow.make := by kernel_rfl
end Go.Proofs.YtneiofnlmblglaaDoor