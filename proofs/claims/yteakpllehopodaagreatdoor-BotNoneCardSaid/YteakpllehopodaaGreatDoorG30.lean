/- An input that fits. -/
import Derived.Test.YteakpllehopodaaGreatDoorG29
namespace Go.Proofs.YteakpllehopodaaGreatDoor
open Go Go.Sx Go.ChangeShapes Go.WideShapes Go.ChangeAt Go.RowKit
set_option maxRecDepth 100000
set_option maxHeartbeats 1000000
theorem SD (os:Os):Input.okWideB Tryz.prog ((World.laidAll Tryz.prog os zw).forCall (fun _ _=>0) ⟨#[],Ah,[]⟩) 3 ⟨#[],Ah,[]⟩=true:=by kernel_rfl
theorem SC (os:Os) (H:Type) (enc:TypeId × Value→H):Rows.botNoneSpec.preB enc Tryz.prog Tryz.f3 [] false ((World.laidAll Tryz.prog os zw).forCall (fun _ _=>0) ⟨#[],Ah,[]⟩).memory Ah 8=true:=by kernel_rfl
theorem SB (os:Os) (H:Type) (enc:TypeId × Value→H):Rows.botNoneSpec.sizedB enc Tryz.prog Tryz.f3 false ((World.laidAll Tryz.prog os zw).forCall (fun _ _=>0) ⟨#[],Ah,[]⟩).memory Ah 8=true:=by kernel_rfl
end Go.Proofs.YteakpllehopodaaGreatDoor
