/- A fact of the program that the card of BotNone asks for. -/
import Derived.Test.YteakpllehopodaaGreatDoorRows
import Derived.SevenTiedAt
namespace Go.Proofs.YteakpllehopodaaGreatDoor
open Go
set_option maxRecDepth 100000
set_option maxHeartbeats 1000000
theorem P5:(false=Rows.botNoneRow.goesBy Tryz.prog):=by kernel_rfl
end Go.Proofs.YteakpllehopodaaGreatDoor
