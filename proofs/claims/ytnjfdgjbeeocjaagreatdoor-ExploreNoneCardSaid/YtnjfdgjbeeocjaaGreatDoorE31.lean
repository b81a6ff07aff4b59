/- A world in which the listed variables hold what the row says. -/
import Derived.Test.YtnjfdgjbeeocjaaGreatDoorE30
namespace Go.Proofs.YtnjfdgjbeeocjaaGreatDoor
open Go Go.Sx Go.ChangeShapes Go.WideShapes Go.ChangeAt Go.RowKit
set_option maxRecDepth 100000
theorem nV (os : Os) (args : Array Value) : laidMet Tryz.prog gj ((World.laidAll Tryz.prog os gj).forCall (fun _ _ => 0) ⟨#[], args, []⟩).memory := laidMet_laidAll _ (by kernel_rfl) (by kernel_rfl)
end Go.Proofs.YtnjfdgjbeeocjaaGreatDoor
