/- The facts of the program that the row of BotNone asks for. -/
import Derived.Test.YteakpllehopodaaGreatDoorG34
import Derived.Test.YteakpllehopodaaGreatDoorG35
import Derived.Test.YteakpllehopodaaGreatDoorG36
import Derived.Test.YteakpllehopodaaGreatDoorG37
namespace Go.Proofs.YteakpllehopodaaGreatDoor
open Go
set_option maxRecDepth 100000
set_option maxHeartbeats 1000000
theorem Qm:joinedFacts Tryz.prog 3 Tryz.f3 Rows.botNoneSpec Rows.botNoneRow=true:=by
 unfold joinedFacts
 rw[Qc,Qb,Qa,P9]
 kernel_rfl
end Go.Proofs.YteakpllehopodaaGreatDoor
