/- The facts of the program that the row of ExploreNone asks for. -/
import Derived.Test.YtnjfdgjbeeocjaaGreatDoorE35
import Derived.Test.YtnjfdgjbeeocjaaGreatDoorE36
import Derived.Test.YtnjfdgjbeeocjaaGreatDoorE37
import Derived.Test.YtnjfdgjbeeocjaaGreatDoorE38
namespace Go.Proofs.YtnjfdgjbeeocjaaGreatDoor
open Go
set_option maxRecDepth 100000
theorem mA : joinedFacts Tryz.prog 3 Tryz.f3 Rows.exploreNoneSpec Rows.exploreNoneRow = true := by
 unfold joinedFacts
 rw [mq, mo, mn, ml]
 kernel_rfl
end Go.Proofs.YtnjfdgjbeeocjaaGreatDoor
