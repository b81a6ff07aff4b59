/- The bare row of BotNone. -/
import Derived.Test.YteakpllehopodaaGreatDoorG31
import Derived.Test.YteakpllehopodaaGreatDoorG38
namespace Go.Proofs.YteakpllehopodaaGreatDoor
open Go Go.Sx Go.ChangeShapes Go.WideShapes Go.ChangeAt Go.RowKit
set_option maxRecDepth 100000
set_option maxHeartbeats 1000000
theorem FU:Rows.BotNoneSaid :=
 OpenClaim.holds_of_wide 3 Tryz.f3 rfl rfl rfl rfl rfl rfl rfl ⟨rfl,rfl,rfl,rfl,rfl⟩ rfl rfl rfl rfl rfl (by kernel_rfl) Tryz.func3 Qm
  (of_decide_eq_true (by kernel_rfl)) (by unfold Func.isWrapper;rw[if_neg (of_decide_eq_false (by kernel_rfl))];exact⟨rfl,rfl⟩)
  (fun os started H enc _=>DZ os started H enc)
end Go.Proofs.YteakpllehopodaaGreatDoor
