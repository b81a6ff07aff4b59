/- A fact of the program that the row of ExploreNone asks for. -/
import Derived.Test.YtnjfdgjbeeocjaaGreatDoorRows
import Derived.JoinedOf
namespace Go.Proofs.YtnjfdgjbeeocjaaGreatDoor
open Go
set_option maxRecDepth 100000
theorem mn : (Rows.exploreNoneRow.recurses == Tryz.prog.recurses 3) = true := by kernel_rfl
end Go.Proofs.YtnjfdgjbeeocjaaGreatDoor
