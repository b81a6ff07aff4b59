/- An input that fits. -/
import Derived.Test.YtocfkcilcfojiaaGreatDoorH32
namespace Go.Proofs.YtocfkcilcfojiaaGreatDoor
open Go Go.Sx Go.ChangeShapes Go.WideShapes Go.ChangeAt Go.RowKit
set_option maxRecDepth 100000
set_option maxHeartbeats 1000000
theorem xq (os : Os) : Input.okWideB Tryz.prog ((World.laidAll Tryz.prog os mf).forCall (fun _ _ => 0) ⟨#[], mL, []⟩) 3 ⟨#[], mL, []⟩ = true := by kernel_rfl
theorem xp (os : Os) (H : Type) (enc : TypeId × Value → H) : Rows.rulesNilSpec.preB enc Tryz.prog Tryz.f3 [] false ((World.laidAll Tryz.prog os mf).forCall (fun _ _ => 0) ⟨#[], mL, []⟩).memory mL 8 = true := by kernel_rfl
theorem xo (os : Os) (H : Type) (enc : TypeId × Value → H) : Rows.rulesNilSpec.sizedB enc Tryz.prog Tryz.f3 false ((World.laidAll Tryz.prog os mf).forCall (fun _ _ => 0) ⟨#[], mL, []⟩).memory mL 8 = true := by kernel_rfl
end Go.Proofs.YtocfkcilcfojiaaGreatDoor
