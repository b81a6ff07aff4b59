/- A fact of the program that the card of ExploreNone asks for. -/
import Derived.Test.YtnjfdgjbeeocjaaGreatDoorRows
import Derived.SevenTiedAt
namespace Go.Proofs.YtnjfdgjbeeocjaaGreatDoor
open Go
set_option maxRecDepth 100000
theorem mj : (false = Tryz.prog.looks []) := by kernel_rfl
end Go.Proofs.YtnjfdgjbeeocjaaGreatDoor
