/- That world is of a shape that a program can have. -/
import Derived.Test.YteakpllehopodaaGreatDoorG28
namespace Go.Proofs.YteakpllehopodaaGreatDoor
open Go Go.Sx Go.ChangeShapes Go.WideShapes Go.ChangeAt Go.RowKit
set_option maxRecDepth 100000
set_option maxHeartbeats 1000000
abbrev Ah:Array Value:=#[.agg #[iV 0,iV 0,iV 0,iV 0,iV 0,iV 0,Vb,Vb,Vb,Vb],.agg #[iV 0,iV 0],iV 0]
theorem OP (os:Os) (args:Array Value):World.Shaped Tryz.prog ((World.laidAll Tryz.prog os zw).forCall (fun _ _=>0) ⟨#[],args,[]⟩):=World.shaped_of_ZipB (by kernel_rfl) (by kernel_rfl)
end Go.Proofs.YteakpllehopodaaGreatDoor
