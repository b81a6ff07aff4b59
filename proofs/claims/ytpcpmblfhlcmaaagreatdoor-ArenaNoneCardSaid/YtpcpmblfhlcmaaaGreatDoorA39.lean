/- The facts of the program that the row of ArenaNone asks for. -/
import Derived.Test.YtpcpmblfhlcmaaaGreatDoorA35
import Derived.Test.YtpcpmblfhlcmaaaGreatDoorA36
import Derived.Test.YtpcpmblfhlcmaaaGreatDoorA37
import Derived.Test.YtpcpmblfhlcmaaaGreatDoorA38
namespace Go.Proofs.YtpcpmblfhlcmaaaGreatDoor
open Go
set_option maxRecDepth 100000
set_option maxHeartbeats 1000000
theorem AK : joinedFacts Tryz.prog 3 Tryz.f3 Rows.arenaNoneSpec Rows.arenaNoneRow = true := by
 unfold joinedFacts
 rw [Az, Ax, Aw, Av]
 kernel_rfl
end Go.Proofs.YtpcpmblfhlcmaaaGreatDoor
