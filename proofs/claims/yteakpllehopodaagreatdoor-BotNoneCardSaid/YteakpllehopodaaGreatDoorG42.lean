/- A fact of the program that the card of BotNone asks for. -/
import Derived.Test.YteakpllehopodaaGreatDoorRows
import Derived.SevenTiedAt
namespace Go.Proofs.YteakpllehopodaaGreatDoor
open Go
set_option maxRecDepth 100000
set_option maxHeartbeats 1000000
theorem P6:(Tryz.prog.mainIs=some (true,"17e97f0ad85ddabd0de9d489cb84e46e8e4bb77c3e7719519424078a470da240".toList)):=by kernel_rfl
end Go.Proofs.YteakpllehopodaaGreatDoor
