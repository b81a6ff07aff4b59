/- A fact of the program that the card of RulesNil asks for. -/
import Derived.Test.YtocfkcilcfojiaaGreatDoorRows
import Derived.SevenTiedAt
namespace Go.Proofs.YtocfkcilcfojiaaGreatDoor
open Go
set_option maxRecDepth 100000
set_option maxHeartbeats 1000000
theorem vQ : (false = Tryz.prog.looks []) := by kernel_rfl
end Go.Proofs.YtocfkcilcfojiaaGreatDoor
