/- A fact of the program that the card of ArenaNone asks for. -/
import Derived.Test.YtpcpmblfhlcmaaaGreatDoorRows
import Derived.SevenTiedAt
namespace Go.Proofs.YtpcpmblfhlcmaaaGreatDoor
open Go
set_option maxRecDepth 100000
set_option maxHeartbeats 1000000
theorem Ar : (Tryz.prog.mainIs = some (true, "406e9d2c18f624b0d5ae854ed8e8a7a46beb5a05cba3330166c1bb6d4c18dda0".toList)) := by kernel_rfl
end Go.Proofs.YtpcpmblfhlcmaaaGreatDoor
