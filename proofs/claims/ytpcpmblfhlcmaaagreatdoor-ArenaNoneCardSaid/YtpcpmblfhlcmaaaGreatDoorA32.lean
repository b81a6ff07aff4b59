/- That world is of a shape that a program can have. -/
import Derived.Test.YtpcpmblfhlcmaaaGreatDoorA31
namespace Go.Proofs.YtpcpmblfhlcmaaaGreatDoor
open Go Go.Sx Go.ChangeShapes Go.WideShapes Go.ChangeAt Go.RowKit
set_option maxRecDepth 100000
set_option maxHeartbeats 1000000
abbrev oG : Array Value := #[.int .i64 0, .int .i64 0]
theorem y0 (os : Os) (args : Array Value) : World.Shaped Tryz.prog ((World.laidAll Tryz.prog os nT).forCall (fun _ _ => 0) ⟨#[], args, []⟩) := World.shaped_of_ZipB (by kernel_rfl) (by kernel_rfl)
end Go.Proofs.YtpcpmblfhlcmaaaGreatDoor
