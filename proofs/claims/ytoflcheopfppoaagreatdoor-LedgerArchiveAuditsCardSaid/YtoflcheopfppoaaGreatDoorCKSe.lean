/- A world for the witnesses: the tables hold what their initialisers lay; closed facts on the whole program that every row of this seat asks; no conditions. -/
import Derived.Test.YtoflcheopfppoaaGreatDoorK1
import Derived.Test.YtoflcheopfppoaaGreatDoorCards
import Derived.Test.YtoflcheopfppoaaGreatDoorTie
import Derived.LaidMore
import Derived.Deep.DeepLaidRun
import Derived.Deep.DeepHandedRow
import Derived.Lib.LaidTab
import Derived.JoinedCond
set_option maxRecDepth 100000
set_option maxHeartbeats 4000000
set_option maxRecDepth 100000
namespace Go.Proofs.YtoflcheopfppoaaGreatDoor
open Go Go.ChangeShapes Go.WideShapes Go.ChangeAt Go.RowKit
theorem laid_met (os : Os) (args : Array Value) : laidMet Tryz.prog Rows.ledgerMatchingMostRow.laid ((World.doorLaid Tryz.prog 29 os).forCall (fun _ _ => 0) ⟨#[],args,[]⟩).memory :=
 laidMet_of_run3 8 zK zK zK
theorem sh_laid : laidOutB Tryz.prog = true:=by kernel_rfl
theorem sh_maps : mapsRowed Tryz.prog = true:=by kernel_rfl
theorem sh_keys : Tryz.prog.plainKeys = false:=by kernel_rfl
theorem sh_heard : Tryz.prog.stopsHeard = true:=by kernel_rfl
theorem sh_may : Tryz.prog.mayEnter = true:=by kernel_rfl
theorem sh_lift : Tryz.prog.liftsFinal = Rows.ledgerMatchingMostRow.lifted:=by kernel_rfl
theorem sh_make : Tryz.prog.make = some Rows.ledgerMatchingMostRow.make:=by kernel_rfl
end Go.Proofs.YtoflcheopfppoaaGreatDoor