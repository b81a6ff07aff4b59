/- That world is of a shape that a program can have. -/
import Derived.Test.YtnjfdgjbeeocjaaGreatDoorE31
namespace Go.Proofs.YtnjfdgjbeeocjaaGreatDoor
open Go Go.Sx Go.ChangeShapes Go.WideShapes Go.ChangeAt Go.RowKit
set_option maxRecDepth 100000
abbrev f4 : Array Value := #[.int .i64 0, .int .i64 0]
theorem lM (os : Os) (args : Array Value) : World.Shaped Tryz.prog ((World.laidAll Tryz.prog os gj).forCall (fun _ _ => 0) ⟨#[], args, []⟩) := World.shaped_of_ZipB (by kernel_rfl) (by kernel_rfl)
end Go.Proofs.YtnjfdgjbeeocjaaGreatDoor
