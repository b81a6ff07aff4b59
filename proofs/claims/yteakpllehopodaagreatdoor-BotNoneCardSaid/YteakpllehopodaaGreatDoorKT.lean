/- The examples of the chapter are as they should be: the kernel reckons the run of 'known'; what is proved of Valid stands for its calls. -/
import Derived.Test.YteakpllehopodaaGreatDoorC6
import Derived.Test.YteakpllehopodaaGreatDoorC32
namespace Go.Proofs.YteakpllehopodaaGreatDoor
open Go Go.Sx
set_option maxRecDepth 100000
set_option maxHeartbeats 1000000
end Go.Proofs.YteakpllehopodaaGreatDoor
