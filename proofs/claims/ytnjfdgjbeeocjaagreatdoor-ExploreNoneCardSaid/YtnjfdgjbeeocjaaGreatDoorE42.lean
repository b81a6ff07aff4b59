/- A fact of the program that the card of ExploreNone asks for. -/
import Derived.Test.YtnjfdgjbeeocjaaGreatDoorRows
import Derived.SevenTiedAt
namespace Go.Proofs.YtnjfdgjbeeocjaaGreatDoor
open Go
set_option maxRecDepth 100000
theorem mh : (Tryz.prog.mainIs = some (true, "c748f4aacd3ade87e047cccd5477d40209ab283c8494564f955843e676843a38".toList)) := by kernel_rfl
end Go.Proofs.YtnjfdgjbeeocjaaGreatDoor
