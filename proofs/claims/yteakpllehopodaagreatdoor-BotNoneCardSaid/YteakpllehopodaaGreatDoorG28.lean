/- A world in which the listed variables hold what the row says. -/
import Derived.Test.YteakpllehopodaaGreatDoorG27
namespace Go.Proofs.YteakpllehopodaaGreatDoor
open Go Go.Sx Go.ChangeShapes Go.WideShapes Go.ChangeAt Go.RowKit
set_option maxRecDepth 100000
set_option maxHeartbeats 1000000
abbrev Vb:Value:=.slice none 0 0
theorem Vz (os:Os) (args:Array Value):laidMet Tryz.prog zw ((World.laidAll Tryz.prog os zw).forCall (fun _ _=>0) ⟨#[],args,[]⟩).memory:=laidMet_laidAll _ (by kernel_rfl) (by kernel_rfl)
end Go.Proofs.YteakpllehopodaaGreatDoor
