/- A world in which the listed variables hold what the row says. -/
import Derived.Test.YtpcpmblfhlcmaaaGreatDoorA30
namespace Go.Proofs.YtpcpmblfhlcmaaaGreatDoor
open Go Go.Sx Go.ChangeShapes Go.WideShapes Go.ChangeAt Go.RowKit
set_option maxRecDepth 100000
set_option maxHeartbeats 1000000
theorem Gu (os : Os) (args : Array Value) : laidMet Tryz.prog nT ((World.laidAll Tryz.prog os nT).forCall (fun _ _ => 0) ⟨#[], args, []⟩).memory := laidMet_laidAll _ (by kernel_rfl) (by kernel_rfl)
end Go.Proofs.YtpcpmblfhlcmaaaGreatDoor
