/- A fact of the program that the card of RulesNil asks for. -/
import Derived.Test.YtocfkcilcfojiaaGreatDoorRows
import Derived.SevenTiedAt
namespace Go.Proofs.YtocfkcilcfojiaaGreatDoor
open Go
set_option maxRecDepth 100000
set_option maxHeartbeats 1000000
theorem vO : (Tryz.prog.mainIs = some (true, "8db95168630539812611fa3f4c63e0d2ec7b51b4452fad2e5a0b4366c51fada9".toList)) := by kernel_rfl
end Go.Proofs.YtocfkcilcfojiaaGreatDoor
