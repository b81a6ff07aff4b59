/- A fact of the program that the row of ArenaNone asks for. -/
import Derived.Test.YtpcpmblfhlcmaaaGreatDoorRows
import Derived.JoinedOf
namespace Go.Proofs.YtpcpmblfhlcmaaaGreatDoor
open Go
set_option maxRecDepth 100000
set_option maxHeartbeats 1000000
theorem Az : (Rows.arenaNoneRow.inPlace == Tryz.prog.inPlace 3) = true := by kernel_rfl
end Go.Proofs.YtpcpmblfhlcmaaaGreatDoor
