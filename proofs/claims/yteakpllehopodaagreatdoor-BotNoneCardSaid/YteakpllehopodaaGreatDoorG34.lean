/- A fact of the program that the row of BotNone asks for. -/
import Derived.Test.YteakpllehopodaaGreatDoorRows
import Derived.JoinedOf
namespace Go.Proofs.YteakpllehopodaaGreatDoor
open Go
set_option maxRecDepth 100000
set_option maxHeartbeats 1000000
theorem Qc:(Rows.botNoneRow.inPlace == Tryz.prog.inPlace 3)=true:=by kernel_rfl
end Go.Proofs.YteakpllehopodaaGreatDoor
