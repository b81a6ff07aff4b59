/- A fact of the program that the row of ExploreNone asks for. -/
import Derived.Test.YtnjfdgjbeeocjaaGreatDoorRows
import Derived.JoinedOf
namespace Go.Proofs.YtnjfdgjbeeocjaaGreatDoor
open Go
set_option maxRecDepth 100000
theorem ml : (Rows.exploreNoneRow.named == Tryz.prog.varsNamed 3) = true := by kernel_rfl
end Go.Proofs.YtnjfdgjbeeocjaaGreatDoor
