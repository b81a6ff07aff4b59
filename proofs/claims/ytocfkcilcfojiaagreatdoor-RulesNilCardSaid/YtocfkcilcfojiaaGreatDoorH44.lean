/- The bare row of RulesNil. -/
import Derived.Test.YtocfkcilcfojiaaGreatDoorH34
import Derived.Test.YtocfkcilcfojiaaGreatDoorH39
namespace Go.Proofs.YtocfkcilcfojiaaGreatDoor
open Go Go.Sx Go.ChangeShapes Go.WideShapes Go.ChangeAt Go.RowKit
set_option maxRecDepth 100000
set_option maxHeartbeats 1000000
theorem qR : Rows.RulesNilSaid :=
 OpenClaim.holds_of_wide 3 Tryz.f3 rfl rfl rfl rfl rfl rfl rfl ⟨rfl, rfl, rfl, rfl, rfl⟩ rfl rfl rfl rfl rfl (by kernel_rfl) Tryz.func3 wc
  (of_decide_eq_true (by kernel_rfl)) (by unfold Func.isWrapper; rw [if_neg (of_decide_eq_false (by kernel_rfl))]; exact ⟨rfl, rfl⟩)
  (fun os started H enc _ => pU os started H enc)
end Go.Proofs.YtocfkcilcfojiaaGreatDoor
