/- A fact of the program that the card of ArenaNone asks for. -/
import Derived.Test.YtpcpmblfhlcmaaaGreatDoorRows
import Derived.SevenTiedAt
namespace Go.Proofs.YtpcpmblfhlcmaaaGreatDoor
open Go
set_option maxRecDepth 100000
set_option maxHeartbeats 1000000
theorem Aq : (false = Rows.arenaNoneRow.goesBy Tryz.prog) := by kernel_rfl
end Go.Proofs.YtpcpmblfhlcmaaaGreatDoor
