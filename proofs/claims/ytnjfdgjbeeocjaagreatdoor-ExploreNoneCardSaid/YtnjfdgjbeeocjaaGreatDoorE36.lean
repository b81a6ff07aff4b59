/- A fact of the program that the row of ExploreNone asks for. -/
import Derived.Test.YtnjfdgjbeeocjaaGreatDoorRows
import Derived.JoinedOf
namespace Go.Proofs.YtnjfdgjbeeocjaaGreatDoor
open Go
set_option maxRecDepth 100000
theorem mo : (Rows.exploreNoneRow.unfollowed == Tryz.prog.unfollowed 3) = true := by kernel_rfl
end Go.Proofs.YtnjfdgjbeeocjaaGreatDoor
