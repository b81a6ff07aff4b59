/- An input that fits. -/
import Derived.Test.YtnjfdgjbeeocjaaGreatDoorE32
namespace Go.Proofs.YtnjfdgjbeeocjaaGreatDoor
open Go Go.Sx Go.ChangeShapes Go.WideShapes Go.ChangeAt Go.RowKit
set_option maxRecDepth 100000
theorem m6 (os : Os) : Input.okWideB Tryz.prog ((World.laidAll Tryz.prog os gj).forCall (fun _ _ => 0) ⟨#[], f4, []⟩) 3 ⟨#[], f4, []⟩ = true := by kernel_rfl
theorem m5 (os : Os) (H : Type) (enc : TypeId × Value → H) : Rows.exploreNoneSpec.preB enc Tryz.prog Tryz.f3 [] false ((World.laidAll Tryz.prog os gj).forCall (fun _ _ => 0) ⟨#[], f4, []⟩).memory f4 8 = true := by kernel_rfl
theorem m4 (os : Os) (H : Type) (enc : TypeId × Value → H) : Rows.exploreNoneSpec.sizedB enc Tryz.prog Tryz.f3 false ((World.laidAll Tryz.prog os gj).forCall (fun _ _ => 0) ⟨#[], f4, []⟩).memory f4 8 = true := by kernel_rfl
end Go.Proofs.YtnjfdgjbeeocjaaGreatDoor
