/- A fact of the program that the card of BotNone asks for. -/
import Derived.Test.YteakpllehopodaaGreatDoorRows
import Derived.SevenTiedAt
namespace Go.Proofs.YteakpllehopodaaGreatDoor
open Go
set_option maxRecDepth 100000
set_option maxHeartbeats 1000000
theorem P7:(Rows.botNoneRow.wfByText (OpenSpec.ofChange Rows.botNoneSpec)=true):=by kernel_rfl
end Go.Proofs.YteakpllehopodaaGreatDoor
