/- A fact of the program that the row of RulesNil asks for. -/
import Derived.Test.YtocfkcilcfojiaaGreatDoorRows
import Derived.JoinedOf
namespace Go.Proofs.YtocfkcilcfojiaaGreatDoor
open Go
set_option maxRecDepth 100000
set_option maxHeartbeats 1000000
theorem vU : (Rows.rulesNilRow.inPlace == Tryz.prog.inPlace 3) = true := by kernel_rfl
end Go.Proofs.YtocfkcilcfojiaaGreatDoor
