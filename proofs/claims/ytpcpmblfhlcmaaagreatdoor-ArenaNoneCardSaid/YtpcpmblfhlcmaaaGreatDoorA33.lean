/- An input that fits. -/
import Derived.Test.YtpcpmblfhlcmaaaGreatDoorA32
namespace Go.Proofs.YtpcpmblfhlcmaaaGreatDoor
open Go Go.Sx Go.ChangeShapes Go.WideShapes Go.ChangeAt Go.RowKit
set_option maxRecDepth 100000
set_option maxHeartbeats 1000000
theorem EC (os : Os) : Input.okWideB Tryz.prog ((World.laidAll Tryz.prog os nT).forCall (fun _ _ => 0) ⟨#[], oG, []⟩) 3 ⟨#[], oG, []⟩ = true := by kernel_rfl
theorem EB (os : Os) (H : Type) (enc : TypeId × Value → H) : Rows.arenaNoneSpec.preB enc Tryz.prog Tryz.f3 [] false ((World.laidAll Tryz.prog os nT).forCall (fun _ _ => 0) ⟨#[], oG, []⟩).memory oG 8 = true := by kernel_rfl
theorem EA (os : Os) (H : Type) (enc : TypeId × Value → H) : Rows.arenaNoneSpec.sizedB enc Tryz.prog Tryz.f3 false ((World.laidAll Tryz.prog os nT).forCall (fun _ _ => 0) ⟨#[], oG, []⟩).memory oG 8 = true := by kernel_rfl
end Go.Proofs.YtpcpmblfhlcmaaaGreatDoor
