/- The bare row of ExploreNone. -/
import Derived.Test.YtnjfdgjbeeocjaaGreatDoorE34
import Derived.Test.YtnjfdgjbeeocjaaGreatDoorE39
namespace Go.Proofs.YtnjfdgjbeeocjaaGreatDoor
open Go Go.Sx Go.ChangeShapes Go.WideShapes Go.ChangeAt Go.RowKit
set_option maxRecDepth 100000
theorem iR : Rows.ExploreNoneSaid :=
 OpenClaim.holds_of_wide 3 Tryz.f3 rfl rfl rfl rfl rfl rfl rfl ⟨rfl, rfl, rfl, rfl, rfl⟩ rfl rfl rfl rfl rfl (by kernel_rfl) Tryz.func3 mA
  (of_decide_eq_true (by kernel_rfl)) (by unfold Func.isWrapper; rw [if_neg (of_decide_eq_false (by kernel_rfl))]; exact ⟨rfl, rfl⟩)
  (fun os started H enc _ => hG os started H enc)
end Go.Proofs.YtnjfdgjbeeocjaaGreatDoor
