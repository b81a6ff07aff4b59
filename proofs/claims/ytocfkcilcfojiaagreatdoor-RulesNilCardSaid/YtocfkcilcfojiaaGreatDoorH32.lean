/- That world is of a shape that a program can have. -/
import Derived.Test.YtocfkcilcfojiaaGreatDoorH31
namespace Go.Proofs.YtocfkcilcfojiaaGreatDoor
open Go Go.Sx Go.ChangeShapes Go.WideShapes Go.ChangeAt Go.RowKit
set_option maxRecDepth 100000
set_option maxHeartbeats 1000000
abbrev mL : Array Value := #[.agg #[.int .i64 0, .int .i64 0, .int .i64 0, .int .i64 0, .int .u8 0, .bool false, .bool false, .int .i64 0]]
theorem vk (os : Os) (args : Array Value) : World.Shaped Tryz.prog ((World.laidAll Tryz.prog os mf).forCall (fun _ _ => 0) ⟨#[], args, []⟩) := World.shaped_of_ZipB (by kernel_rfl) (by kernel_rfl)
end Go.Proofs.YtocfkcilcfojiaaGreatDoor
