/- The facts of the program that the row of RulesNil asks for. -/
import Derived.Test.YtocfkcilcfojiaaGreatDoorH35
import Derived.Test.YtocfkcilcfojiaaGreatDoorH36
import Derived.Test.YtocfkcilcfojiaaGreatDoorH37
import Derived.Test.YtocfkcilcfojiaaGreatDoorH38
namespace Go.Proofs.YtocfkcilcfojiaaGreatDoor
open Go
set_option maxRecDepth 100000
set_option maxHeartbeats 1000000
theorem wc : joinedFacts Tryz.prog 3 Tryz.f3 Rows.rulesNilSpec Rows.rulesNilRow = true := by
 unfold joinedFacts
 rw [vU, vT, vS, vR]
 kernel_rfl
end Go.Proofs.YtocfkcilcfojiaaGreatDoor
